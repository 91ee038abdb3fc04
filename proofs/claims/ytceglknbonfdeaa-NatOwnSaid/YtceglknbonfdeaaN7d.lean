/- The exported division, at numbers in their form. No program. -/
import Derived.Test.YtceglknbonfdeaaN6
import Derived.Test.YtceglknbonfdeaaN7
namespace Go.Proofs.Ytceglknbonfdeaa.PNat
open Go.RowKit Go.Proofs.YtceglknbonfdeaaW.PrintWords Go.Proofs.YtceglknbonfdeaaW.PrintLast Go.Proofs.YtceglknbonfdeaaW.PrintMore
set_option linter.unusedVariables false
theorem Div_ok {x y : List Int} (cx : Canon x) (cy : Canon y) (sx : x.length ≤ 512) (sy : y.length ≤ 512) (h : 0 < y.length) : Ev (fun k => nat_Div.f k x y) (num (val x / val y), num (val x % val y), 0) := by
  unfold nat_Div.f
  exact Ev.bind (form2 x y (by omega) (by omega)) (ev_if (fE2_ok sx cx sy cy) (ev_else (by omega) (Ev.bind (div_f cx cy h (by omega) (by omega)) (ev_some _))))
end Go.Proofs.Ytceglknbonfdeaa.PNat
