-- Written by a program of this session (wip/print/drive.py) for this claim; Lean checks it.
import Derived.Test.YtafdpgdllmhhmaaProg
import Derived.Below
import Derived.Deep.Draws
import Derived.Deep.AppendLies
import Derived.Maps.AppendAt
import Derived.OwnWalk
import Derived.Laws.BytesArg
import Derived.Laws.MakeOwn
import Derived.Laws.OwnMore
import Derived.Deep.OwnRows
import Derived.Tactics
import Derived.Lib.ConvBytes
import Derived.Laws.Slices
import Derived.WalkKit
import Derived.KernelRfl
import Derived.RowKit3
import Derived.Deep.LoopGhost
import Derived.Deep.QuietTactic
import Derived.BigQuiet
import Derived.WideLaws
import Derived.Deep.DeepCutAuto
import Derived.Deep.CutBlock
import Derived.Deep.RegionHeld3
import Derived.Laws.Rows
import Derived.Lib.AppendStr
import Derived.ArgAppend
import Derived.Laws.IdiomCopy
import Derived.OrdersHeld
import Derived.Laws.BitsLemmas
import Derived.RowKit
import Derived.Test.YtafdpgdllmhhmaaSp
import Derived.Test.YtafdpgdllmhhmaaWWords
import Derived.Test.YtafdpgdllmhhmaaWLast
import Derived.Test.YtafdpgdllmhhmaaWTab
import Derived.Test.YtafdpgdllmhhmaaWFour
import Derived.Test.YtafdpgdllmhhmaaWQPut
import Derived.Test.YtafdpgdllmhhmaaWApart
import Derived.Test.YtafdpgdllmhhmaaWArr
import Derived.Test.YtafdpgdllmhhmaaWZeros
import Derived.Test.YtafdpgdllmhhmaaWFoot
import Derived.Test.YtafdpgdllmhhmaaWKept
import Derived.Test.YtafdpgdllmhhmaaWShare
import Derived.Test.YtafdpgdllmhhmaaWN
import Derived.Test.YtafdpgdllmhhmaaWFootNe
import Derived.Test.YtafdpgdllmhhmaaWAt
import Derived.Test.YtafdpgdllmhhmaaWEqStruct
import Derived.Test.YtafdpgdllmhhmaaWRepsOne
import Derived.Test.YtafdpgdllmhhmaaWInv
import Derived.Test.YtafdpgdllmhhmaaWInvWords
import Derived.Test.YtafdpgdllmhhmaaWGuard
import Derived.Test.YtafdpgdllmhhmaaWNEv
import Derived.Test.YtafdpgdllmhhmaaWMore
namespace Go.Proofs.Ytafdpgdllmhhmaa.Lf
open Go.RowKit Go.Proofs.Ytafdpgdllmhhmaa.H Go.Proofs.YtafdpgdllmhhmaaW.PrintWords Go.Proofs.YtafdpgdllmhhmaaW.PrintLast Go.Proofs.YtafdpgdllmhhmaaW.PrintMore
attribute [local go_sem] max2_int min2_int max_two min_two max_three min_three max_four min_four   -- for this text's walks alone
set_option linter.unusedVariables false
set_option linter.unusedSimpArgs false



def errW : Option Int → Value
  | none => .nilIface
  | some c => .iface 0 (.int .i64 c)
theorem errW_none : errW none = .nilIface := rfl
theorem errW_some (c : Int) : errW (some c) = .iface 0 (.int .i64 c) := rfl

theorem info5 : (Try.prog.info? 5).map (fun i => (i.zero, i.size, i.bytes)) = some (some (.int .u8 0), 1, 1) := by kernel_rfl
-- the values' own types

end Go.Proofs.Ytafdpgdllmhhmaa.Lf
