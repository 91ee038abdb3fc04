-- Printed by a program for this claim (wip/myprint.sh, wip/patchprint.py, wip/regroup.py)
import Derived.Test.YtceglknbonfdeaaDB
namespace Go.Proofs.Ytceglknbonfdeaa.PNat
open Go.RowKit Go.Proofs.YtceglknbonfdeaaW.PrintWords Go.Proofs.YtceglknbonfdeaaW.PrintLast Go.Proofs.YtceglknbonfdeaaW.PrintMore
set_option linter.unusedVariables false
set_option linter.unusedSimpArgs false

def fluxionlaw01_NatDivisors.f (k : Nat) (l0 : List Int) (l1 : List Int) : Option (Bool) := (fluxionlaw01_cut.f l0 516).bind fun t450 => ((fluxionlaw01_cut.f l1 516).bind fun t453 => ((nat_Gcd.f k t450 t453).bind fun bt456 => ((fluxionref01_Both.f t450 t453).bind fun t460 => (if t460 = 0 then ((fluxionref01_Gcd.f k t450 t453).bind fun t461 => ((fluxionlaw01_is.f k bt456.1 bt456.2 t461 0).bind fun t464 => (if t464 = true then ((fluxionlaw01_alive.f).bind fun t465 => (some t465)) else (some false)))) else ((fluxionlaw01_is.f k bt456.1 bt456.2 ([] : List Int) t460).bind fun t466 => (if t466 = true then ((fluxionlaw01_alive.f).bind fun t467 => (some t467)) else (some false)))))))
theorem fluxionlaw01_NatDivisors.mono : ∀ a0 a1 k, LeO (fluxionlaw01_NatDivisors.f k a0 a1) (fluxionlaw01_NatDivisors.f (k + 1) a0 a1) := by
  intro a0 a1 k
  unfold fluxionlaw01_NatDivisors.f
  repeat' first
      | (with_reducible exact fluxionlaw01_is.mono _ _ _ _ _)
      | (with_reducible exact fluxionref01_Gcd.mono _ _ _)
      | (with_reducible exact nat_Gcd.mono _ _ _)
      | (with_reducible exact LeO.refl _)
      | (with_reducible exact LeO.none _)
      | (with_reducible refine LeO.ite ?_ ?_)
      | (with_reducible refine LeO.bind ?_ (fun _ => ?_))
      | exact fluxionlaw01_is.mono _ _ _ _ _
      | exact fluxionref01_Gcd.mono _ _ _
      | exact nat_Gcd.mono _ _ _
      | exact LeO.none _
      | refine LeO.ite ?_ ?_
      | refine LeO.bind ?_ (fun _ => ?_)
def fluxionlaw01_NatDivisors.Pure : Prop := ∀ (l0 : List Int) (l1 : List Int), l0.length ≤ maxLen → l0.length * 4 ≤ 140737488351232 → (∀ x ∈ l0, (Lit.int .u32 x).wf = true) → l1.length ≤ maxLen → l1.length * 4 ≤ 140737488351232 → (∀ x ∈ l1, (Lit.int .u32 x).wf = true) → ∃ k, fluxionlaw01_NatDivisors.f k l0 l1 = some true

end Go.Proofs.Ytceglknbonfdeaa.PNat
