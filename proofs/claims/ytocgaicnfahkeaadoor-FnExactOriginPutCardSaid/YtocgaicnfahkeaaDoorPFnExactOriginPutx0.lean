-- Written by a program of this session (wip/print/drive.py) for this claim; Lean checks it.
import Derived.Test.YtocgaicnfahkeaaDoorProg
import Derived.Below
import Derived.Deep.Draws
import Derived.Deep.AppendLies
import Derived.Maps.AppendAt
import Derived.OwnWalk
import Derived.Laws.BytesArg
import Derived.Laws.MakeOwn
import Derived.Laws.OwnMore
import Derived.Deep.OwnRows
import Derived.Tactics
import Derived.Lib.ConvBytes
import Derived.Laws.Slices
import Derived.WalkKit
import Derived.KernelRfl
import Derived.RowKit3
import Derived.Deep.LoopGhost
import Derived.Deep.QuietTactic
import Derived.BigQuiet
import Derived.WideLaws
import Derived.Deep.DeepCutAuto
import Derived.Deep.CutBlock
import Derived.Deep.RegionHeld3
import Derived.Laws.Rows
import Derived.Lib.AppendStr
import Derived.ArgAppend
import Derived.Laws.IdiomCopy
import Derived.OrdersHeld
import Derived.Laws.BitsLemmas
import Derived.RowKit
import Derived.Test.YtocgaicnfahkeaaDoorSp
import Derived.Test.YtocgaicnfahkeaaDoorHLib
import Derived.Test.YtocgaicnfahkeaaDoorWWords
import Derived.Test.YtocgaicnfahkeaaDoorWLast
import Derived.Test.YtocgaicnfahkeaaDoorWTab
import Derived.Test.YtocgaicnfahkeaaDoorWFour
import Derived.Test.YtocgaicnfahkeaaDoorWQPut
import Derived.Test.YtocgaicnfahkeaaDoorWApart
import Derived.Test.YtocgaicnfahkeaaDoorWArr
import Derived.Test.YtocgaicnfahkeaaDoorWZeros
import Derived.Test.YtocgaicnfahkeaaDoorWFoot
import Derived.Test.YtocgaicnfahkeaaDoorWKept
import Derived.Test.YtocgaicnfahkeaaDoorWShare
import Derived.Test.YtocgaicnfahkeaaDoorWN
import Derived.Test.YtocgaicnfahkeaaDoorWFootNe
import Derived.Test.YtocgaicnfahkeaaDoorWAt
import Derived.Test.YtocgaicnfahkeaaDoorWEqStruct
import Derived.Test.YtocgaicnfahkeaaDoorWRepsOne
import Derived.Test.YtocgaicnfahkeaaDoorWInv
import Derived.Test.YtocgaicnfahkeaaDoorWInvWords
import Derived.Test.YtocgaicnfahkeaaDoorWGuard
import Derived.Test.YtocgaicnfahkeaaDoorWNEv
import Derived.Test.YtocgaicnfahkeaaDoorWMore
namespace Go.Proofs.YtocgaicnfahkeaaDoor.PFnExactOriginPut
open Go.RowKit Go.Proofs.YtocgaicnfahkeaaDoor.H Go.Proofs.YtocgaicnfahkeaaDoorW.PrintWords Go.Proofs.YtocgaicnfahkeaaDoorW.PrintLast Go.Proofs.YtocgaicnfahkeaaDoorW.PrintMore
attribute [local go_sem] max2_int min2_int max_two min_two max_three min_three max_four min_four   -- for this text's walks alone
set_option linter.unusedVariables false
set_option linter.unusedSimpArgs false



def errW : Option Int → Value
  | none => .nilIface
  | some c => .iface 0 (.int .i64 c)
theorem errW_none : errW none = .nilIface := rfl
theorem errW_some (c : Int) : errW (some c) = .iface 0 (.int .i64 c) := rfl

theorem info5 : (Tryd.prog.info? 5).map (fun i => (i.zero, i.size, i.bytes)) = some (some (.int .u8 0), 1, 1) := by kernel_rfl
theorem info9 : (Tryd.prog.info? 9).map (fun i => (i.zero, i.size, i.bytes)) = some (some (.string ⟨#[]⟩), 1, 16) := by kernel_rfl
-- the values' own types

end Go.Proofs.YtocgaicnfahkeaaDoor.PFnExactOriginPut
