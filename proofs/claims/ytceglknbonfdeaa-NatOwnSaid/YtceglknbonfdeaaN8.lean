/- The reference's own functions over digits: cutting zeros, comparing, sums, differences, products. No program. -/
import Derived.Test.YtceglknbonfdeaaN7
import Derived.Test.YtceglknbonfdeaaDB
namespace Go.Proofs.Ytceglknbonfdeaa.PNat
open Go.RowKit Go.Proofs.YtceglknbonfdeaaW.PrintWords Go.Proofs.YtceglknbonfdeaaW.PrintLast Go.Proofs.YtceglknbonfdeaaW.PrintMore
set_option linter.unusedVariables false

end Go.Proofs.Ytceglknbonfdeaa.PNat
