-- PRINTED BY print.sh 35421559b90ae4d0a3588c463048766b98c2df88dd9212a6774a882060cdf62d: not written by this session
-- CUT DOWN by this claim (wip/prunew.py): what it uses

import Derived.Test.YtceglknbonfdeaaWInv
import Derived.Test.YtceglknbonfdeaaWFootNe
namespace Go.Proofs.YtceglknbonfdeaaW.PrintWords
open Go.RowKit
end Go.Proofs.YtceglknbonfdeaaW.PrintWords
namespace Go.Proofs.YtceglknbonfdeaaW.PrintLast
section
variable {ops : Array Oper} {a : Act} {o og : Oper} {g : Nat} {t : Tmp} {u : Bool}
end
end Go.Proofs.YtceglknbonfdeaaW.PrintLast

