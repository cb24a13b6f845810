/- Texts of this claim, joined: Lhx. Conditions: each theorem's own. -/
import Derived.Test.YtndobphgeiamhaaGreatDoorA05
import Derived.Test.YtndobphgeiamhaaGreatDoorA04
import Derived.Test.YtndobphgeiamhaaGreatDoorA06
import Derived.Test.YtndobphgeiamhaaGreatDoorA07
import Derived.Test.YtndobphgeiamhaaGreatDoorA08
import Derived.Test.YtndobphgeiamhaaGreatDoorA09
set_option maxHeartbeats 8000000
set_option maxRecDepth 100000
namespace Go.Proofs.YtndobphgeiamhaaGreatDoor.Lh
open Go.RowKit Go.Proofs.YtndobphgeiamhaaGreatDoor.H Go.Proofs.YtndobphgeiamhaaGreatDoorW.PrintWords Go.Proofs.YtndobphgeiamhaaGreatDoorW.PrintLast Go.Proofs.YtndobphgeiamhaaGreatDoorW.PrintMore Go.Proofs.YtndobphgeiamhaaGreatDoor.Lp
attribute [local go_sem] max2_int min2_int max_two min_two max_three min_three max_four min_four   -- for this text's walks alone
set_option linter.unusedVariables false
set_option linter.unusedSimpArgs false
end Go.Proofs.YtndobphgeiamhaaGreatDoor.Lh
