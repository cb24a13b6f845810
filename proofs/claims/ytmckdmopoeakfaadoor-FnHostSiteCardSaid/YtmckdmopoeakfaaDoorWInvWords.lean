import Derived.Test.YtmckdmopoeakfaaDoorWInv
import Derived.Test.YtmckdmopoeakfaaDoorWFootNe
namespace Go.Proofs.YtmckdmopoeakfaaDoorW.PrintWords
open Go.RowKit
end Go.Proofs.YtmckdmopoeakfaaDoorW.PrintWords
namespace Go.Proofs.YtmckdmopoeakfaaDoorW.PrintLast
section
variable {ops : Array Oper} {a : Act} {o og : Oper} {g : Nat} {t : Tmp} {u : Bool}
end
end Go.Proofs.YtmckdmopoeakfaaDoorW.PrintLast
