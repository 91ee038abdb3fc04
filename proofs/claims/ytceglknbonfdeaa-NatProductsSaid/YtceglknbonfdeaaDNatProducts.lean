-- Printed by a program for this claim (wip/myprint.sh, wip/patchprint.py, wip/regroup.py)
import Derived.Test.YtceglknbonfdeaaDB
namespace Go.Proofs.Ytceglknbonfdeaa.PNat
open Go.RowKit Go.Proofs.YtceglknbonfdeaaW.PrintWords Go.Proofs.YtceglknbonfdeaaW.PrintLast Go.Proofs.YtceglknbonfdeaaW.PrintMore
set_option linter.unusedVariables false
set_option linter.unusedSimpArgs false

def fluxionlaw01_NatProducts.f (k : Nat) (l0 : List Int) (l1 : List Int) : Option (Bool) := (fluxionlaw01_cut.f l0 516).bind fun t599 => ((fluxionlaw01_cut.f l1 516).bind fun t602 => ((nat_Mul.f k t599 t602).bind fun bt605 => ((fluxionref01_Both.f t599 t602).bind fun t609 => (if t609 = 0 then ((fluxionref01_Mul.f k t599 t602).bind fun t610 => ((fluxionlaw01_is.f k bt605.1 bt605.2 t610 0).bind fun t613 => (if t613 = true then ((fluxionlaw01_alive.f).bind fun t614 => (some t614)) else (some false)))) else ((fluxionlaw01_is.f k bt605.1 bt605.2 ([] : List Int) t609).bind fun t615 => (if t615 = true then ((fluxionlaw01_alive.f).bind fun t616 => (some t616)) else (some false)))))))
theorem fluxionlaw01_NatProducts.mono : ∀ a0 a1 k, LeO (fluxionlaw01_NatProducts.f k a0 a1) (fluxionlaw01_NatProducts.f (k + 1) a0 a1) := by
  intro a0 a1 k
  unfold fluxionlaw01_NatProducts.f
  repeat' first
      | (with_reducible exact fluxionlaw01_is.mono _ _ _ _ _)
      | (with_reducible exact fluxionref01_Mul.mono _ _ _)
      | (with_reducible exact nat_Mul.mono _ _ _)
      | (with_reducible exact LeO.refl _)
      | (with_reducible exact LeO.none _)
      | (with_reducible refine LeO.ite ?_ ?_)
      | (with_reducible refine LeO.bind ?_ (fun _ => ?_))
      | exact fluxionlaw01_is.mono _ _ _ _ _
      | exact fluxionref01_Mul.mono _ _ _
      | exact nat_Mul.mono _ _ _
      | exact LeO.none _
      | refine LeO.ite ?_ ?_
      | refine LeO.bind ?_ (fun _ => ?_)
def fluxionlaw01_NatProducts.Pure : Prop := ∀ (l0 : List Int) (l1 : List Int), l0.length ≤ maxLen → l0.length * 4 ≤ 140737488351232 → (∀ x ∈ l0, (Lit.int .u32 x).wf = true) → l1.length ≤ maxLen → l1.length * 4 ≤ 140737488351232 → (∀ x ∈ l1, (Lit.int .u32 x).wf = true) → ∃ k, fluxionlaw01_NatProducts.f k l0 l1 = some true

end Go.Proofs.Ytceglknbonfdeaa.PNat
