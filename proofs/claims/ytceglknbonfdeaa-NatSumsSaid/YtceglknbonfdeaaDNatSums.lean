-- Printed by a program for this claim (wip/myprint.sh, wip/patchprint.py, wip/regroup.py)
import Derived.Test.YtceglknbonfdeaaDB
namespace Go.Proofs.Ytceglknbonfdeaa.PNat
open Go.RowKit Go.Proofs.YtceglknbonfdeaaW.PrintWords Go.Proofs.YtceglknbonfdeaaW.PrintLast Go.Proofs.YtceglknbonfdeaaW.PrintMore
set_option linter.unusedVariables false
set_option linter.unusedSimpArgs false

def fluxionlaw01_NatSums.j0 : Nat → List Int → List Int → List Int → Int → Int → Bool → Option (Bool)
  | 0, _, _, _, _, _, _ => none
  | k + 1, x5, x6, x11, x12, x14, x82 => if x82 = true then (some false) else (if x14 < 0 then ((fluxionlaw01_is.f k x11 x12 ([] : List Int) 4).bind fun t847 => (if t847 = true then ((fluxionlaw01_alive.f).bind fun t848 => (some t848)) else (some false))) else ((fluxionref01_Sub.f k x5 x6).bind fun t849 => ((fluxionlaw01_is.f k x11 x12 t849 0).bind fun t852 => (if t852 = true then ((fluxionlaw01_alive.f).bind fun t853 => (some t853)) else (some false)))))
def fluxionlaw01_NatSums.f (k : Nat) (l0 : List Int) (l1 : List Int) : Option (Bool) := (fluxionlaw01_cut.f l0 516).bind fun t822 => ((fluxionlaw01_cut.f l1 516).bind fun t825 => ((nat_Compare.f k t822 t825).bind fun bt828 => ((nat_Add.f k t822 t825).bind fun bt830 => ((nat_Sub.f k t822 t825).bind fun bt834 => ((fluxionref01_Both.f t822 t825).bind fun t838 => (if t838 = 0 then ((fluxionref01_Compare.f k t822 t825).bind fun t842 => (if bt828.1 = t842 then (if bt828.2 = 0 then ((fluxionref01_Add.f k t822 t825).bind fun t843 => ((fluxionlaw01_is.f k bt830.1 bt830.2 t843 0).bind fun t846 => (fluxionlaw01_NatSums.j0 k t822 t825 bt834.1 bt834.2 t842 (!t846)))) else (fluxionlaw01_NatSums.j0 k t822 t825 bt834.1 bt834.2 t842 true)) else (fluxionlaw01_NatSums.j0 k t822 t825 bt834.1 bt834.2 t842 true))) else (if bt828.1 = 0 then (if bt828.2 = t838 then ((fluxionlaw01_is.f k bt830.1 bt830.2 ([] : List Int) t838).bind fun t839 => (if t839 = true then ((fluxionlaw01_is.f k bt834.1 bt834.2 ([] : List Int) t838).bind fun t840 => (if t840 = true then ((fluxionlaw01_alive.f).bind fun t841 => (some t841)) else (some false))) else (some false))) else (some false)) else (some false))))))))
theorem fluxionlaw01_NatSums.mono_l : ∀ k, (∀ y0 y1 y2 y3 y4 y5, LeO (fluxionlaw01_NatSums.j0 k y0 y1 y2 y3 y4 y5) (fluxionlaw01_NatSums.j0 (k + 1) y0 y1 y2 y3 y4 y5))
  | 0 => fun _ _ _ _ _ _ r h => by simp [fluxionlaw01_NatSums.j0] at h
  | k + 1 => by
    have ih0 := fluxionlaw01_NatSums.mono_l k
    · intro y0 y1 y2 y3 y4 y5
      unfold fluxionlaw01_NatSums.j0
      repeat' first
      | (with_reducible exact ih0 _ _ _ _ _ _)
      | (with_reducible exact fluxionlaw01_is.mono _ _ _ _ _)
      | (with_reducible exact fluxionref01_Add.mono _ _ _)
      | (with_reducible exact fluxionref01_Compare.mono _ _ _)
      | (with_reducible exact fluxionref01_Sub.mono _ _ _)
      | (with_reducible exact nat_Add.mono _ _ _)
      | (with_reducible exact nat_Compare.mono _ _ _)
      | (with_reducible exact nat_Sub.mono _ _ _)
      | (with_reducible exact LeO.refl _)
      | (with_reducible exact LeO.none _)
      | (with_reducible refine LeO.ite ?_ ?_)
      | (with_reducible refine LeO.bind ?_ (fun _ => ?_))
      | exact ih0 _ _ _ _ _ _
      | exact fluxionlaw01_is.mono _ _ _ _ _
      | exact fluxionref01_Add.mono _ _ _
      | exact fluxionref01_Compare.mono _ _ _
      | exact fluxionref01_Sub.mono _ _ _
      | exact nat_Add.mono _ _ _
      | exact nat_Compare.mono _ _ _
      | exact nat_Sub.mono _ _ _
      | exact LeO.none _
      | refine LeO.ite ?_ ?_
      | refine LeO.bind ?_ (fun _ => ?_)
theorem fluxionlaw01_NatSums.mono : ∀ a0 a1 k, LeO (fluxionlaw01_NatSums.f k a0 a1) (fluxionlaw01_NatSums.f (k + 1) a0 a1) := by
  intro a0 a1 k
  have ih0 := fluxionlaw01_NatSums.mono_l k
  unfold fluxionlaw01_NatSums.f
  repeat' first
      | (with_reducible exact ih0 _ _ _ _ _ _)
      | (with_reducible exact fluxionlaw01_is.mono _ _ _ _ _)
      | (with_reducible exact fluxionref01_Add.mono _ _ _)
      | (with_reducible exact fluxionref01_Compare.mono _ _ _)
      | (with_reducible exact fluxionref01_Sub.mono _ _ _)
      | (with_reducible exact nat_Add.mono _ _ _)
      | (with_reducible exact nat_Compare.mono _ _ _)
      | (with_reducible exact nat_Sub.mono _ _ _)
      | (with_reducible exact LeO.refl _)
      | (with_reducible exact LeO.none _)
      | (with_reducible refine LeO.ite ?_ ?_)
      | (with_reducible refine LeO.bind ?_ (fun _ => ?_))
      | exact ih0 _ _ _ _ _ _
      | exact fluxionlaw01_is.mono _ _ _ _ _
      | exact fluxionref01_Add.mono _ _ _
      | exact fluxionref01_Compare.mono _ _ _
      | exact fluxionref01_Sub.mono _ _ _
      | exact nat_Add.mono _ _ _
      | exact nat_Compare.mono _ _ _
      | exact nat_Sub.mono _ _ _
      | exact LeO.none _
      | refine LeO.ite ?_ ?_
      | refine LeO.bind ?_ (fun _ => ?_)
def fluxionlaw01_NatSums.Pure : Prop := ∀ (l0 : List Int) (l1 : List Int), l0.length ≤ maxLen → l0.length * 4 ≤ 140737488351232 → (∀ x ∈ l0, (Lit.int .u32 x).wf = true) → l1.length ≤ maxLen → l1.length * 4 ≤ 140737488351232 → (∀ x ∈ l1, (Lit.int .u32 x).wf = true) → ∃ k, fluxionlaw01_NatSums.f k l0 l1 = some true

end Go.Proofs.Ytceglknbonfdeaa.PNat
