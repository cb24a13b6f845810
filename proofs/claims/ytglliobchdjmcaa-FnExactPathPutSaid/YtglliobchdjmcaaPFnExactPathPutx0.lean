-- Written by a program of this session (wip/print/drive.py) for this claim; Lean checks it.
import Derived.Test.YtglliobchdjmcaaProg
import Derived.Below
import Derived.Deep.Draws
import Derived.Deep.AppendLies
import Derived.Maps.AppendAt
import Derived.OwnWalk
import Derived.Laws.BytesArg
import Derived.Laws.MakeOwn
import Derived.Laws.OwnMore
import Derived.Deep.OwnRows
import Derived.Tactics
import Derived.Lib.ConvBytes
import Derived.Laws.Slices
import Derived.WalkKit
import Derived.KernelRfl
import Derived.RowKit3
import Derived.Deep.LoopGhost
import Derived.Deep.QuietTactic
import Derived.BigQuiet
import Derived.WideLaws
import Derived.Deep.DeepCutAuto
import Derived.Deep.CutBlock
import Derived.Deep.RegionHeld3
import Derived.Laws.Rows
import Derived.Lib.AppendStr
import Derived.ArgAppend
import Derived.Laws.IdiomCopy
import Derived.OrdersHeld
import Derived.Laws.BitsLemmas
import Derived.RowKit
import Derived.Test.YtglliobchdjmcaaSp
import Derived.Test.YtglliobchdjmcaaHPathPut
import Derived.Test.YtglliobchdjmcaaWWords
import Derived.Test.YtglliobchdjmcaaWLast
import Derived.Test.YtglliobchdjmcaaWTab
import Derived.Test.YtglliobchdjmcaaWFour
import Derived.Test.YtglliobchdjmcaaWQPut
import Derived.Test.YtglliobchdjmcaaWApart
import Derived.Test.YtglliobchdjmcaaWArr
import Derived.Test.YtglliobchdjmcaaWZeros
import Derived.Test.YtglliobchdjmcaaWFoot
import Derived.Test.YtglliobchdjmcaaWKept
import Derived.Test.YtglliobchdjmcaaWShare
import Derived.Test.YtglliobchdjmcaaWN
import Derived.Test.YtglliobchdjmcaaWFootNe
import Derived.Test.YtglliobchdjmcaaWAt
import Derived.Test.YtglliobchdjmcaaWEqStruct
import Derived.Test.YtglliobchdjmcaaWRepsOne
import Derived.Test.YtglliobchdjmcaaWInv
import Derived.Test.YtglliobchdjmcaaWInvWords
import Derived.Test.YtglliobchdjmcaaWGuard
import Derived.Test.YtglliobchdjmcaaWNEv
import Derived.Test.YtglliobchdjmcaaWMore
namespace Go.Proofs.Ytglliobchdjmcaa.PFnExactPathPut
open Go.RowKit Go.Proofs.Ytglliobchdjmcaa.H Go.Proofs.YtglliobchdjmcaaW.PrintWords Go.Proofs.YtglliobchdjmcaaW.PrintLast Go.Proofs.YtglliobchdjmcaaW.PrintMore
attribute [local go_sem] max2_int min2_int max_two min_two max_three min_three max_four min_four   -- for this text's walks alone
set_option linter.unusedVariables false
set_option linter.unusedSimpArgs false



def errW : Option Int → Value
  | none => .nilIface
  | some c => .iface 0 (.int .i64 c)
theorem errW_none : errW none = .nilIface := rfl
theorem errW_some (c : Int) : errW (some c) = .iface 0 (.int .i64 c) := rfl

theorem info9 : (Try.prog.info? 9).map (fun i => (i.zero, i.size, i.bytes)) = some (some (.string ⟨#[]⟩), 1, 16) := by kernel_rfl
-- the values' own types

end Go.Proofs.Ytglliobchdjmcaa.PFnExactPathPut
