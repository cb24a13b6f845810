-- Written by a program of this session (wip/print/drive.py) for this claim; Lean checks it.
import Derived.Test.YtafdpgdllmhhmaaDoorProg
import Derived.Below
import Derived.Deep.Draws
import Derived.Deep.AppendLies
import Derived.Maps.AppendAt
import Derived.OwnWalk
import Derived.Laws.BytesArg
import Derived.Laws.MakeOwn
import Derived.Laws.OwnMore
import Derived.Deep.OwnRows
import Derived.Tactics
import Derived.Lib.ConvBytes
import Derived.Laws.Slices
import Derived.WalkKit
import Derived.KernelRfl
import Derived.RowKit3
import Derived.Deep.LoopGhost
import Derived.Deep.QuietTactic
import Derived.BigQuiet
import Derived.WideLaws
import Derived.Deep.DeepCutAuto
import Derived.Deep.CutBlock
import Derived.Deep.RegionHeld3
import Derived.Laws.Rows
import Derived.Lib.AppendStr
import Derived.ArgAppend
import Derived.Laws.IdiomCopy
import Derived.OrdersHeld
import Derived.Laws.BitsLemmas
import Derived.RowKit
import Derived.Test.YtafdpgdllmhhmaaDoorSp
import Derived.Test.YtafdpgdllmhhmaaDoorHSplit
import Derived.Test.YtafdpgdllmhhmaaDoorWWords
import Derived.Test.YtafdpgdllmhhmaaDoorWLast
import Derived.Test.YtafdpgdllmhhmaaDoorWTab
import Derived.Test.YtafdpgdllmhhmaaDoorWFour
import Derived.Test.YtafdpgdllmhhmaaDoorWQPut
import Derived.Test.YtafdpgdllmhhmaaDoorWApart
import Derived.Test.YtafdpgdllmhhmaaDoorWArr
import Derived.Test.YtafdpgdllmhhmaaDoorWZeros
import Derived.Test.YtafdpgdllmhhmaaDoorWFoot
import Derived.Test.YtafdpgdllmhhmaaDoorWKept
import Derived.Test.YtafdpgdllmhhmaaDoorWShare
import Derived.Test.YtafdpgdllmhhmaaDoorWN
import Derived.Test.YtafdpgdllmhhmaaDoorWFootNe
import Derived.Test.YtafdpgdllmhhmaaDoorWAt
import Derived.Test.YtafdpgdllmhhmaaDoorWEqStruct
import Derived.Test.YtafdpgdllmhhmaaDoorWRepsOne
import Derived.Test.YtafdpgdllmhhmaaDoorWInv
import Derived.Test.YtafdpgdllmhhmaaDoorWInvWords
import Derived.Test.YtafdpgdllmhhmaaDoorWGuard
import Derived.Test.YtafdpgdllmhhmaaDoorWNEv
import Derived.Test.YtafdpgdllmhhmaaDoorWMore
namespace Go.Proofs.YtafdpgdllmhhmaaDoor.PFnExactHostOk
open Go.RowKit Go.Proofs.YtafdpgdllmhhmaaDoor.H Go.Proofs.YtafdpgdllmhhmaaDoorW.PrintWords Go.Proofs.YtafdpgdllmhhmaaDoorW.PrintLast Go.Proofs.YtafdpgdllmhhmaaDoorW.PrintMore
attribute [local go_sem] max2_int min2_int max_two min_two max_three min_three max_four min_four   -- for this text's walks alone
set_option linter.unusedVariables false
set_option linter.unusedSimpArgs false



def errW : Option Int → Value
  | none => .nilIface
  | some c => .iface 0 (.int .i64 c)
theorem errW_none : errW none = .nilIface := rfl
theorem errW_some (c : Int) : errW (some c) = .iface 0 (.int .i64 c) := rfl

theorem info9 : (Tryd.prog.info? 9).map (fun i => (i.zero, i.size, i.bytes)) = some (some (.string ⟨#[]⟩), 1, 16) := by kernel_rfl
-- the values' own types

end Go.Proofs.YtafdpgdllmhhmaaDoor.PFnExactHostOk
