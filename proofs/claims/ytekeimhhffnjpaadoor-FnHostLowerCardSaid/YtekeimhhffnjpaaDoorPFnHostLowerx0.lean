-- Written by a program of this session (wip/print/drive.py) for this claim; Lean checks it.
import Derived.Test.YtekeimhhffnjpaaDoorProg
import Derived.Below
import Derived.Deep.Draws
import Derived.Deep.AppendLies
import Derived.Maps.AppendAt
import Derived.OwnWalk
import Derived.Laws.BytesArg
import Derived.Laws.MakeOwn
import Derived.Laws.OwnMore
import Derived.Deep.OwnRows
import Derived.Tactics
import Derived.Lib.ConvBytes
import Derived.Laws.Slices
import Derived.WalkKit
import Derived.KernelRfl
import Derived.RowKit3
import Derived.Deep.LoopGhost
import Derived.Deep.QuietTactic
import Derived.BigQuiet
import Derived.WideLaws
import Derived.Deep.DeepCutAuto
import Derived.Deep.CutBlock
import Derived.Deep.RegionHeld3
import Derived.Laws.Rows
import Derived.Lib.AppendStr
import Derived.ArgAppend
import Derived.Laws.IdiomCopy
import Derived.OrdersHeld
import Derived.Laws.BitsLemmas
import Derived.RowKit
import Derived.Test.YtekeimhhffnjpaaDoorSp
import Derived.Test.YtekeimhhffnjpaaDoorHImp
import Derived.Test.YtekeimhhffnjpaaDoorHLib
import Derived.Test.YtekeimhhffnjpaaDoorWWords
import Derived.Test.YtekeimhhffnjpaaDoorWLast
import Derived.Test.YtekeimhhffnjpaaDoorWTab
import Derived.Test.YtekeimhhffnjpaaDoorWFour
import Derived.Test.YtekeimhhffnjpaaDoorWQPut
import Derived.Test.YtekeimhhffnjpaaDoorWApart
import Derived.Test.YtekeimhhffnjpaaDoorWArr
import Derived.Test.YtekeimhhffnjpaaDoorWZeros
import Derived.Test.YtekeimhhffnjpaaDoorWFoot
import Derived.Test.YtekeimhhffnjpaaDoorWKept
import Derived.Test.YtekeimhhffnjpaaDoorWShare
import Derived.Test.YtekeimhhffnjpaaDoorWN
import Derived.Test.YtekeimhhffnjpaaDoorWFootNe
import Derived.Test.YtekeimhhffnjpaaDoorWAt
import Derived.Test.YtekeimhhffnjpaaDoorWEqStruct
import Derived.Test.YtekeimhhffnjpaaDoorWRepsOne
import Derived.Test.YtekeimhhffnjpaaDoorWInv
import Derived.Test.YtekeimhhffnjpaaDoorWInvWords
import Derived.Test.YtekeimhhffnjpaaDoorWGuard
import Derived.Test.YtekeimhhffnjpaaDoorWNEv
import Derived.Test.YtekeimhhffnjpaaDoorWMore
namespace Go.Proofs.YtekeimhhffnjpaaDoor.PFnHostLower
open Go.RowKit Go.Proofs.YtekeimhhffnjpaaDoor.H Go.Proofs.YtekeimhhffnjpaaDoorW.PrintWords Go.Proofs.YtekeimhhffnjpaaDoorW.PrintLast Go.Proofs.YtekeimhhffnjpaaDoorW.PrintMore
attribute [local go_sem] max2_int min2_int max_two min_two max_three min_three max_four min_four   -- for this text's walks alone
set_option linter.unusedVariables false
set_option linter.unusedSimpArgs false



def errW : Option Int → Value
  | none => .nilIface
  | some c => .iface 0 (.int .i64 c)
theorem errW_none : errW none = .nilIface := rfl
theorem errW_some (c : Int) : errW (some c) = .iface 0 (.int .i64 c) := rfl

theorem info3 : (Tryd.prog.info? 3).map (fun i => (i.zero, i.size, i.bytes)) = some (some (.int .i64 0), 1, 8) := by kernel_rfl
theorem info5 : (Tryd.prog.info? 5).map (fun i => (i.zero, i.size, i.bytes)) = some (some (.int .u8 0), 1, 1) := by kernel_rfl
theorem info9 : (Tryd.prog.info? 9).map (fun i => (i.zero, i.size, i.bytes)) = some (some (.string ⟨#[]⟩), 1, 16) := by kernel_rfl
-- the values' own types

end Go.Proofs.YtekeimhhffnjpaaDoor.PFnHostLower
