-- printed by the session's own call of print.py. Not trusted: Lean checks it.
import Derived.Test.YtaidjgnkefpclaaProg
import Derived.Below
import Derived.Deep.Draws
import Derived.Deep.AppendLies
import Derived.Maps.AppendAt
import Derived.OwnWalk
import Derived.Laws.BytesArg
import Derived.Laws.MakeOwn
import Derived.Laws.OwnMore
import Derived.Deep.OwnRows
import Derived.Tactics
import Derived.Lib.ConvBytes
import Derived.Laws.Slices
import Derived.WalkKit
import Derived.KernelRfl
import Derived.RowKit3
import Derived.Deep.LoopGhost
import Derived.Deep.QuietTactic
import Derived.BigQuiet
import Derived.WideLaws
import Derived.Deep.DeepCutAuto
import Derived.Deep.CutBlock
import Derived.Deep.RegionHeld3
import Derived.Laws.Rows
import Derived.Lib.AppendStr
import Derived.ArgAppend
import Derived.Laws.IdiomCopy
import Derived.OrdersHeld
import Derived.Laws.BitsLemmas
import Derived.RowKit
import Derived.Test.YtaidjgnkefpclaaWWords
import Derived.Test.YtaidjgnkefpclaaWLast
import Derived.Test.YtaidjgnkefpclaaWTab
import Derived.Test.YtaidjgnkefpclaaWFour
import Derived.Test.YtaidjgnkefpclaaWQPut
import Derived.Test.YtaidjgnkefpclaaWApart
import Derived.Test.YtaidjgnkefpclaaWArr
import Derived.Test.YtaidjgnkefpclaaWZeros
import Derived.Test.YtaidjgnkefpclaaWFoot
import Derived.Test.YtaidjgnkefpclaaWKept
import Derived.Test.YtaidjgnkefpclaaWShare
import Derived.Test.YtaidjgnkefpclaaWN
import Derived.Test.YtaidjgnkefpclaaWFootNe
import Derived.Test.YtaidjgnkefpclaaWAt
import Derived.Test.YtaidjgnkefpclaaWEqStruct
import Derived.Test.YtaidjgnkefpclaaWRepsOne
import Derived.Test.YtaidjgnkefpclaaWInv
import Derived.Test.YtaidjgnkefpclaaWInvWords
import Derived.Test.YtaidjgnkefpclaaWGuard
import Derived.Test.YtaidjgnkefpclaaWNEv
import Derived.Test.YtaidjgnkefpclaaWMore
namespace Go.Proofs.Ytaidjgnkefpclaa.P
open Go.RowKit Go.Proofs.YtaidjgnkefpclaaW.PrintWords Go.Proofs.YtaidjgnkefpclaaW.PrintLast Go.Proofs.YtaidjgnkefpclaaW.PrintMore
attribute [local go_sem] max2_int min2_int max_two min_two max_three min_three max_four min_four
set_option linter.unusedVariables false
set_option linter.unusedSimpArgs false

def errW : Option Int → Value
  | none => .nilIface
  | some c => .iface 0 (.int .i64 c)
theorem errW_none : errW none = .nilIface := rfl
theorem errW_some (c : Int) : errW (some c) = .iface 0 (.int .i64 c) := rfl

theorem info5 : (Try.prog.info? 5).map (fun i => (i.zero, i.size, i.bytes)) = some (some (.int .u8 0), 1, 1) := by kernel_rfl
theorem info9 : (Try.prog.info? 9).map (fun i => (i.zero, i.size, i.bytes)) = some (some (.string ⟨#[]⟩), 1, 16) := by kernel_rfl
-- the values' own types

end Go.Proofs.Ytaidjgnkefpclaa.P
