-- Printed by a program for this claim (wip/myprint.sh, wip/patchprint.py, wip/regroup.py)
import Derived.Test.YtceglknbonfdeaaDB
namespace Go.Proofs.Ytceglknbonfdeaa.PNat
open Go.RowKit Go.Proofs.YtceglknbonfdeaaW.PrintWords Go.Proofs.YtceglknbonfdeaaW.PrintLast Go.Proofs.YtceglknbonfdeaaW.PrintMore
set_option linter.unusedVariables false
set_option linter.unusedSimpArgs false

def fluxionlaw01_NatRoots.f (k : Nat) (l0 : List Int) : Option (Bool) := (fluxionlaw01_cut.f l0 516).bind fun t505 => ((nat_Root.f k t505).bind fun bt508 => ((fluxionref01_Valid.f t505).bind fun t512 => (if t512 = 0 then ((fluxionref01_Root.f k t505).bind fun t513 => ((fluxionlaw01_is.f k bt508.1 bt508.2 t513 0).bind fun t516 => (if t516 = true then ((fluxionlaw01_alive.f).bind fun t517 => (some t517)) else (some false)))) else ((fluxionlaw01_is.f k bt508.1 bt508.2 ([] : List Int) t512).bind fun t518 => (if t518 = true then ((fluxionlaw01_alive.f).bind fun t519 => (some t519)) else (some false))))))
theorem fluxionlaw01_NatRoots.mono : ∀ a0 k, LeO (fluxionlaw01_NatRoots.f k a0) (fluxionlaw01_NatRoots.f (k + 1) a0) := by
  intro a0 k
  unfold fluxionlaw01_NatRoots.f
  repeat' first
      | (with_reducible exact fluxionlaw01_is.mono _ _ _ _ _)
      | (with_reducible exact fluxionref01_Root.mono _ _)
      | (with_reducible exact nat_Root.mono _ _)
      | (with_reducible exact LeO.refl _)
      | (with_reducible exact LeO.none _)
      | (with_reducible refine LeO.ite ?_ ?_)
      | (with_reducible refine LeO.bind ?_ (fun _ => ?_))
      | exact fluxionlaw01_is.mono _ _ _ _ _
      | exact fluxionref01_Root.mono _ _
      | exact nat_Root.mono _ _
      | exact LeO.none _
      | refine LeO.ite ?_ ?_
      | refine LeO.bind ?_ (fun _ => ?_)
def fluxionlaw01_NatRoots.Pure : Prop := ∀ (l0 : List Int), l0.length ≤ maxLen → l0.length * 4 ≤ 140737488351232 → (∀ x ∈ l0, (Lit.int .u32 x).wf = true) → ∃ k, fluxionlaw01_NatRoots.f k l0 = some true

end Go.Proofs.Ytceglknbonfdeaa.PNat
