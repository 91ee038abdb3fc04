-- Printed by a program for this claim (wip/myprint.sh, wip/patchprint.py, wip/regroup.py)
import Derived.Test.YtceglknbonfdeaaDB
namespace Go.Proofs.Ytceglknbonfdeaa.PNat
open Go.RowKit Go.Proofs.YtceglknbonfdeaaW.PrintWords Go.Proofs.YtceglknbonfdeaaW.PrintLast Go.Proofs.YtceglknbonfdeaaW.PrintMore
set_option linter.unusedVariables false
set_option linter.unusedSimpArgs false

def fluxionlaw01_NatTexts.j0 : Nat → ByteArray → Option (Bool)
  | 0, _ => none
  | k + 1, x1 => if 0 ≤ (mn (x1.size : Int) 5000) then (if (mn (x1.size : Int) 5000) ≤ (x1.size : Int) then ((nat_Parse.f k (x1.extract 0 ((mn (x1.size : Int) 5000) : Int).toNat)).bind fun bt557 => ((fluxionref01_Parse.f k (x1.extract 0 ((mn (x1.size : Int) 5000) : Int).toNat)).bind fun bt561 => ((fluxionlaw01_is.f k bt557.1 bt557.2 bt561.1 bt561.2).bind fun t565 => (if t565 = true then ((fluxionlaw01_alive.f).bind fun t566 => (some t566)) else (some false))))) else (none)) else (none)
def fluxionlaw01_NatTexts.f (k : Nat) (l0 : List Int) (a1 : ByteArray) : Option (Bool) := (fluxionlaw01_cut.f l0 516).bind fun t550 => ((nat_Text.f k t550).bind fun bt553 => ((fluxionref01_Valid.f t550).bind fun t555 => (if t555 = 0 then ((fluxionref01_Text.f k t550).bind fun t556 => (if bt553.1.toList = t556.toList then (if bt553.2 = 0 then (fluxionlaw01_NatTexts.j0 k a1) else (some false)) else (some false))) else (if bt553.1.toList = ([] : List UInt8) then (if bt553.2 = t555 then (fluxionlaw01_NatTexts.j0 k a1) else (some false)) else (some false)))))
theorem fluxionlaw01_NatTexts.mono_l : ∀ k, (∀ y0, LeO (fluxionlaw01_NatTexts.j0 k y0) (fluxionlaw01_NatTexts.j0 (k + 1) y0))
  | 0 => fun _ r h => by simp [fluxionlaw01_NatTexts.j0] at h
  | k + 1 => by
    have ih0 := fluxionlaw01_NatTexts.mono_l k
    · intro y0
      unfold fluxionlaw01_NatTexts.j0
      repeat' first
      | (with_reducible exact ih0 _)
      | (with_reducible exact fluxionlaw01_is.mono _ _ _ _ _)
      | (with_reducible exact fluxionref01_Parse.mono _ _)
      | (with_reducible exact fluxionref01_Text.mono _ _)
      | (with_reducible exact nat_Parse.mono _ _)
      | (with_reducible exact nat_Text.mono _ _)
      | (with_reducible exact LeO.refl _)
      | (with_reducible exact LeO.none _)
      | (with_reducible refine LeO.ite ?_ ?_)
      | (with_reducible refine LeO.bind ?_ (fun _ => ?_))
      | exact ih0 _
      | exact fluxionlaw01_is.mono _ _ _ _ _
      | exact fluxionref01_Parse.mono _ _
      | exact fluxionref01_Text.mono _ _
      | exact nat_Parse.mono _ _
      | exact nat_Text.mono _ _
      | exact LeO.none _
      | refine LeO.ite ?_ ?_
      | refine LeO.bind ?_ (fun _ => ?_)
theorem fluxionlaw01_NatTexts.mono : ∀ a0 a1 k, LeO (fluxionlaw01_NatTexts.f k a0 a1) (fluxionlaw01_NatTexts.f (k + 1) a0 a1) := by
  intro a0 a1 k
  have ih0 := fluxionlaw01_NatTexts.mono_l k
  unfold fluxionlaw01_NatTexts.f
  repeat' first
      | (with_reducible exact ih0 _)
      | (with_reducible exact fluxionlaw01_is.mono _ _ _ _ _)
      | (with_reducible exact fluxionref01_Parse.mono _ _)
      | (with_reducible exact fluxionref01_Text.mono _ _)
      | (with_reducible exact nat_Parse.mono _ _)
      | (with_reducible exact nat_Text.mono _ _)
      | (with_reducible exact LeO.refl _)
      | (with_reducible exact LeO.none _)
      | (with_reducible refine LeO.ite ?_ ?_)
      | (with_reducible refine LeO.bind ?_ (fun _ => ?_))
      | exact ih0 _
      | exact fluxionlaw01_is.mono _ _ _ _ _
      | exact fluxionref01_Parse.mono _ _
      | exact fluxionref01_Text.mono _ _
      | exact nat_Parse.mono _ _
      | exact nat_Text.mono _ _
      | exact LeO.none _
      | refine LeO.ite ?_ ?_
      | refine LeO.bind ?_ (fun _ => ?_)
def fluxionlaw01_NatTexts.Pure : Prop := ∀ (l0 : List Int) (a1 : ByteArray), l0.length ≤ maxLen → l0.length * 4 ≤ 140737488351232 → (∀ x ∈ l0, (Lit.int .u32 x).wf = true) → a1.size ≤ 140737488351232 → ∃ k, fluxionlaw01_NatTexts.f k l0 a1 = some true

end Go.Proofs.Ytceglknbonfdeaa.PNat
