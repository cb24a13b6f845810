-- PRINTED BY print.sh 35421559b90ae4d0a3588c463048766b98c2df88dd9212a6774a882060cdf62d: not written by this session
import Derived.Test.YtekeimhhffnjpaaDoorWInv
import Derived.Test.YtekeimhhffnjpaaDoorWFootNe
namespace Go.Proofs.YtekeimhhffnjpaaDoorW.PrintWords
open Go.RowKit
end Go.Proofs.YtekeimhhffnjpaaDoorW.PrintWords
namespace Go.Proofs.YtekeimhhffnjpaaDoorW.PrintLast
section
variable {ops : Array Oper} {a : Act} {o og : Oper} {g : Nat} {t : Tmp} {u : Bool}
end
end Go.Proofs.YtekeimhhffnjpaaDoorW.PrintLast
