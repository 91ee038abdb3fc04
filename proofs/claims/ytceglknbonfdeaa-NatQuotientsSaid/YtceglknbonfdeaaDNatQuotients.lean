-- Printed by a program for this claim (wip/myprint.sh, wip/patchprint.py, wip/regroup.py)
import Derived.Test.YtceglknbonfdeaaDB
namespace Go.Proofs.Ytceglknbonfdeaa.PNat
open Go.RowKit Go.Proofs.YtceglknbonfdeaaW.PrintWords Go.Proofs.YtceglknbonfdeaaW.PrintLast Go.Proofs.YtceglknbonfdeaaW.PrintMore
set_option linter.unusedVariables false
set_option linter.unusedSimpArgs false

mutual
def fluxionlaw01_NatQuotients.j0 : Nat → List Int → List Int → List Int → List Int → Int → Int → Bool → Option (Bool)
  | 0, _, _, _, _, _, _, _ => none
  | k + 1, x5, x6, x7, x8, x9, x10, x33 => if x33 = true then (fluxionlaw01_NatQuotients.j1 k x5 x6 x7 x8 x9 11) else (fluxionlaw01_NatQuotients.j1 k x5 x6 x7 x8 x9 x10)
def fluxionlaw01_NatQuotients.j1 : Nat → List Int → List Int → List Int → List Int → Int → Int → Option (Bool)
  | 0, _, _, _, _, _, _ => none
  | k + 1, x5, x6, x7, x8, x9, x10 => if x10 = 0 then ((fluxionref01_Div.f k x5 x6).bind fun bt388 => ((fluxionlaw01_is.f k x7 x9 bt388.1 0).bind fun t394 => (if t394 = true then ((fluxionlaw01_same.f k x8 bt388.2).bind fun t395 => (if t395 = true then ((fluxionlaw01_alive.f).bind fun t396 => (some t396)) else (some false))) else (some false)))) else ((fluxionlaw01_is.f k x7 x9 ([] : List Int) x10).bind fun t386 => (if t386 = true then (if (x8.length : Int) = 0 then ((fluxionlaw01_alive.f).bind fun t387 => (some t387)) else (some false)) else (some false)))
end
def fluxionlaw01_NatQuotients.f (k : Nat) (l0 : List Int) (l1 : List Int) : Option (Bool) := (fluxionlaw01_cut.f l0 516).bind fun t372 => ((fluxionlaw01_cut.f l1 516).bind fun t375 => ((nat_Div.f k t372 t375).bind fun bt378 => ((fluxionref01_Both.f t372 t375).bind fun t385 => (if t385 = 0 then (fluxionlaw01_NatQuotients.j0 k t372 t375 bt378.1 bt378.2.1 bt378.2.2 t385 ((t375.length : Int) == 0)) else (fluxionlaw01_NatQuotients.j0 k t372 t375 bt378.1 bt378.2.1 bt378.2.2 t385 false)))))
theorem fluxionlaw01_NatQuotients.mono_l : ∀ k, (∀ y0 y1 y2 y3 y4 y5 y6, LeO (fluxionlaw01_NatQuotients.j0 k y0 y1 y2 y3 y4 y5 y6) (fluxionlaw01_NatQuotients.j0 (k + 1) y0 y1 y2 y3 y4 y5 y6)) ∧ (∀ y0 y1 y2 y3 y4 y5, LeO (fluxionlaw01_NatQuotients.j1 k y0 y1 y2 y3 y4 y5) (fluxionlaw01_NatQuotients.j1 (k + 1) y0 y1 y2 y3 y4 y5))
  | 0 => ⟨fun _ _ _ _ _ _ _ r h => by simp [fluxionlaw01_NatQuotients.j0] at h, fun _ _ _ _ _ _ r h => by simp [fluxionlaw01_NatQuotients.j1] at h⟩
  | k + 1 => by
    obtain ⟨ih0, ih1⟩ := fluxionlaw01_NatQuotients.mono_l k
    refine ⟨?_, ?_⟩
    · intro y0 y1 y2 y3 y4 y5 y6
      unfold fluxionlaw01_NatQuotients.j0
      repeat' first
      | (with_reducible exact ih0 _ _ _ _ _ _ _)
      | (with_reducible exact ih1 _ _ _ _ _ _)
      | (with_reducible exact fluxionlaw01_is.mono _ _ _ _ _)
      | (with_reducible exact fluxionlaw01_same.mono _ _ _)
      | (with_reducible exact fluxionref01_Div.mono _ _ _)
      | (with_reducible exact nat_Div.mono _ _ _)
      | (with_reducible exact LeO.refl _)
      | (with_reducible exact LeO.none _)
      | (with_reducible refine LeO.ite ?_ ?_)
      | (with_reducible refine LeO.bind ?_ (fun _ => ?_))
      | exact ih0 _ _ _ _ _ _ _
      | exact ih1 _ _ _ _ _ _
      | exact fluxionlaw01_is.mono _ _ _ _ _
      | exact fluxionlaw01_same.mono _ _ _
      | exact fluxionref01_Div.mono _ _ _
      | exact nat_Div.mono _ _ _
      | exact LeO.none _
      | refine LeO.ite ?_ ?_
      | refine LeO.bind ?_ (fun _ => ?_)
    · intro y0 y1 y2 y3 y4 y5
      unfold fluxionlaw01_NatQuotients.j1
      repeat' first
      | (with_reducible exact ih0 _ _ _ _ _ _ _)
      | (with_reducible exact ih1 _ _ _ _ _ _)
      | (with_reducible exact fluxionlaw01_is.mono _ _ _ _ _)
      | (with_reducible exact fluxionlaw01_same.mono _ _ _)
      | (with_reducible exact fluxionref01_Div.mono _ _ _)
      | (with_reducible exact nat_Div.mono _ _ _)
      | (with_reducible exact LeO.refl _)
      | (with_reducible exact LeO.none _)
      | (with_reducible refine LeO.ite ?_ ?_)
      | (with_reducible refine LeO.bind ?_ (fun _ => ?_))
      | exact ih0 _ _ _ _ _ _ _
      | exact ih1 _ _ _ _ _ _
      | exact fluxionlaw01_is.mono _ _ _ _ _
      | exact fluxionlaw01_same.mono _ _ _
      | exact fluxionref01_Div.mono _ _ _
      | exact nat_Div.mono _ _ _
      | exact LeO.none _
      | refine LeO.ite ?_ ?_
      | refine LeO.bind ?_ (fun _ => ?_)
theorem fluxionlaw01_NatQuotients.mono : ∀ a0 a1 k, LeO (fluxionlaw01_NatQuotients.f k a0 a1) (fluxionlaw01_NatQuotients.f (k + 1) a0 a1) := by
  intro a0 a1 k
  obtain ⟨ih0, ih1⟩ := fluxionlaw01_NatQuotients.mono_l k
  unfold fluxionlaw01_NatQuotients.f
  repeat' first
      | (with_reducible exact ih0 _ _ _ _ _ _ _)
      | (with_reducible exact ih1 _ _ _ _ _ _)
      | (with_reducible exact fluxionlaw01_is.mono _ _ _ _ _)
      | (with_reducible exact fluxionlaw01_same.mono _ _ _)
      | (with_reducible exact fluxionref01_Div.mono _ _ _)
      | (with_reducible exact nat_Div.mono _ _ _)
      | (with_reducible exact LeO.refl _)
      | (with_reducible exact LeO.none _)
      | (with_reducible refine LeO.ite ?_ ?_)
      | (with_reducible refine LeO.bind ?_ (fun _ => ?_))
      | exact ih0 _ _ _ _ _ _ _
      | exact ih1 _ _ _ _ _ _
      | exact fluxionlaw01_is.mono _ _ _ _ _
      | exact fluxionlaw01_same.mono _ _ _
      | exact fluxionref01_Div.mono _ _ _
      | exact nat_Div.mono _ _ _
      | exact LeO.none _
      | refine LeO.ite ?_ ?_
      | refine LeO.bind ?_ (fun _ => ?_)
def fluxionlaw01_NatQuotients.Pure : Prop := ∀ (l0 : List Int) (l1 : List Int), l0.length ≤ maxLen → l0.length * 4 ≤ 140737488351232 → (∀ x ∈ l0, (Lit.int .u32 x).wf = true) → l1.length ≤ maxLen → l1.length * 4 ≤ 140737488351232 → (∀ x ∈ l1, (Lit.int .u32 x).wf = true) → ∃ k, fluxionlaw01_NatQuotients.f k l0 l1 = some true

end Go.Proofs.Ytceglknbonfdeaa.PNat
