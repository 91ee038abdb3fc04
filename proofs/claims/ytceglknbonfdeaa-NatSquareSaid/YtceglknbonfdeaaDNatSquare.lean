-- Printed by a program for this claim (wip/myprint.sh, wip/patchprint.py, wip/regroup.py)
import Derived.Test.YtceglknbonfdeaaDB
namespace Go.Proofs.Ytceglknbonfdeaa.PNat
open Go.RowKit Go.Proofs.YtceglknbonfdeaaW.PrintWords Go.Proofs.YtceglknbonfdeaaW.PrintLast Go.Proofs.YtceglknbonfdeaaW.PrintMore
set_option linter.unusedVariables false
set_option linter.unusedSimpArgs false

mutual
def fluxionlaw01_NatSquare.j0 : Nat → List Int → List Int → Bool → Option (Bool)
  | 0, _, _, _ => none
  | k + 1, x3, x4, x33 => if x33 = true then (some false) else ((fluxionlaw01_sum.f k x4 (([1] : List Int))).bind fun bt868 => ((fluxionlaw01_product.f k x4 x4).bind fun bt872 => (if bt868.2 = true then (if bt872.2 = true then (if (bt868.1.length : Int) > 102 then (fluxionlaw01_NatSquare.j1 k x3 bt868.1 bt872.1 true) else (fluxionlaw01_NatSquare.j1 k x3 bt868.1 bt872.1 (decide ((bt872.1.length : Int) > 204)))) else (fluxionlaw01_NatSquare.j1 k x3 bt868.1 bt872.1 true)) else (fluxionlaw01_NatSquare.j1 k x3 bt868.1 bt872.1 true))))
def fluxionlaw01_NatSquare.j1 : Nat → List Int → List Int → List Int → Bool → Option (Bool)
  | 0, _, _, _, _ => none
  | k + 1, x3, x6, x8, x61 => if x61 = true then (some false) else ((fluxionlaw01_product.f k x6 x6).bind fun bt876 => (if bt876.2 = true then (fluxionlaw01_NatSquare.j2 k x3 x8 bt876.1 (decide ((bt876.1.length : Int) > 204))) else (fluxionlaw01_NatSquare.j2 k x3 x8 bt876.1 true)))
def fluxionlaw01_NatSquare.j2 : Nat → List Int → List Int → List Int → Bool → Option (Bool)
  | 0, _, _, _, _ => none
  | k + 1, x3, x8, x10, x74 => if x74 = true then (some false) else ((nat_Compare.f k x8 x3).bind fun bt880 => ((nat_Compare.f k x10 x3).bind fun bt882 => ((fluxionlaw01_product.f k x3 x3).bind fun bt884 => (if bt880.2 = 0 then (if bt882.2 = 0 then (if bt880.1 > 0 then (fluxionlaw01_NatSquare.j3 k x3 bt884.1 true) else (if bt882.1 = 1 then (if bt884.2 = true then (fluxionlaw01_NatSquare.j3 k x3 bt884.1 (decide ((bt884.1.length : Int) > 400))) else (fluxionlaw01_NatSquare.j3 k x3 bt884.1 true)) else (fluxionlaw01_NatSquare.j3 k x3 bt884.1 true))) else (fluxionlaw01_NatSquare.j3 k x3 bt884.1 true)) else (fluxionlaw01_NatSquare.j3 k x3 bt884.1 true)))))
def fluxionlaw01_NatSquare.j3 : Nat → List Int → List Int → Bool → Option (Bool)
  | 0, _, _, _ => none
  | k + 1, x3, x16, x115 => if x115 = true then (some false) else ((nat_Root.f k x16).bind fun bt888 => (if bt888.2 = 0 then ((fluxionlaw01_same.f k bt888.1 x3).bind fun t892 => (if t892 = true then ((fluxionlaw01_alive.f).bind fun t893 => (some t893)) else (some false))) else (some false)))
end
def fluxionlaw01_NatSquare.f (k : Nat) (l0 : List Int) : Option (Bool) := (fluxionlaw01_tame.f k l0 200).bind fun t858 => ((nat_Root.f k t858).bind fun bt861 => (if bt861.2 = 0 then (fluxionlaw01_NatSquare.j0 k t858 bt861.1 (decide ((bt861.1.length : Int) > 101))) else (fluxionlaw01_NatSquare.j0 k t858 bt861.1 true)))
theorem fluxionlaw01_NatSquare.mono_l : ∀ k, (∀ y0 y1 y2, LeO (fluxionlaw01_NatSquare.j0 k y0 y1 y2) (fluxionlaw01_NatSquare.j0 (k + 1) y0 y1 y2)) ∧ (∀ y0 y1 y2 y3, LeO (fluxionlaw01_NatSquare.j1 k y0 y1 y2 y3) (fluxionlaw01_NatSquare.j1 (k + 1) y0 y1 y2 y3)) ∧ (∀ y0 y1 y2 y3, LeO (fluxionlaw01_NatSquare.j2 k y0 y1 y2 y3) (fluxionlaw01_NatSquare.j2 (k + 1) y0 y1 y2 y3)) ∧ (∀ y0 y1 y2, LeO (fluxionlaw01_NatSquare.j3 k y0 y1 y2) (fluxionlaw01_NatSquare.j3 (k + 1) y0 y1 y2))
  | 0 => ⟨fun _ _ _ r h => by simp [fluxionlaw01_NatSquare.j0] at h, fun _ _ _ _ r h => by simp [fluxionlaw01_NatSquare.j1] at h, fun _ _ _ _ r h => by simp [fluxionlaw01_NatSquare.j2] at h, fun _ _ _ r h => by simp [fluxionlaw01_NatSquare.j3] at h⟩
  | k + 1 => by
    obtain ⟨ih0, ih1, ih2, ih3⟩ := fluxionlaw01_NatSquare.mono_l k
    refine ⟨?_, ?_, ?_, ?_⟩
    · intro y0 y1 y2
      unfold fluxionlaw01_NatSquare.j0
      repeat' first
      | (with_reducible exact ih0 _ _ _)
      | (with_reducible exact ih1 _ _ _ _)
      | (with_reducible exact ih2 _ _ _ _)
      | (with_reducible exact ih3 _ _ _)
      | (with_reducible exact fluxionlaw01_product.mono _ _ _)
      | (with_reducible exact fluxionlaw01_same.mono _ _ _)
      | (with_reducible exact fluxionlaw01_sum.mono _ _ _)
      | (with_reducible exact fluxionlaw01_tame.mono _ _ _)
      | (with_reducible exact nat_Compare.mono _ _ _)
      | (with_reducible exact nat_Root.mono _ _)
      | (with_reducible exact LeO.refl _)
      | (with_reducible exact LeO.none _)
      | (with_reducible refine LeO.ite ?_ ?_)
      | (with_reducible refine LeO.bind ?_ (fun _ => ?_))
      | exact ih0 _ _ _
      | exact ih1 _ _ _ _
      | exact ih2 _ _ _ _
      | exact ih3 _ _ _
      | exact fluxionlaw01_product.mono _ _ _
      | exact fluxionlaw01_same.mono _ _ _
      | exact fluxionlaw01_sum.mono _ _ _
      | exact fluxionlaw01_tame.mono _ _ _
      | exact nat_Compare.mono _ _ _
      | exact nat_Root.mono _ _
      | exact LeO.none _
      | refine LeO.ite ?_ ?_
      | refine LeO.bind ?_ (fun _ => ?_)
    · intro y0 y1 y2 y3
      unfold fluxionlaw01_NatSquare.j1
      repeat' first
      | (with_reducible exact ih0 _ _ _)
      | (with_reducible exact ih1 _ _ _ _)
      | (with_reducible exact ih2 _ _ _ _)
      | (with_reducible exact ih3 _ _ _)
      | (with_reducible exact fluxionlaw01_product.mono _ _ _)
      | (with_reducible exact fluxionlaw01_same.mono _ _ _)
      | (with_reducible exact fluxionlaw01_sum.mono _ _ _)
      | (with_reducible exact fluxionlaw01_tame.mono _ _ _)
      | (with_reducible exact nat_Compare.mono _ _ _)
      | (with_reducible exact nat_Root.mono _ _)
      | (with_reducible exact LeO.refl _)
      | (with_reducible exact LeO.none _)
      | (with_reducible refine LeO.ite ?_ ?_)
      | (with_reducible refine LeO.bind ?_ (fun _ => ?_))
      | exact ih0 _ _ _
      | exact ih1 _ _ _ _
      | exact ih2 _ _ _ _
      | exact ih3 _ _ _
      | exact fluxionlaw01_product.mono _ _ _
      | exact fluxionlaw01_same.mono _ _ _
      | exact fluxionlaw01_sum.mono _ _ _
      | exact fluxionlaw01_tame.mono _ _ _
      | exact nat_Compare.mono _ _ _
      | exact nat_Root.mono _ _
      | exact LeO.none _
      | refine LeO.ite ?_ ?_
      | refine LeO.bind ?_ (fun _ => ?_)
    · intro y0 y1 y2 y3
      unfold fluxionlaw01_NatSquare.j2
      repeat' first
      | (with_reducible exact ih0 _ _ _)
      | (with_reducible exact ih1 _ _ _ _)
      | (with_reducible exact ih2 _ _ _ _)
      | (with_reducible exact ih3 _ _ _)
      | (with_reducible exact fluxionlaw01_product.mono _ _ _)
      | (with_reducible exact fluxionlaw01_same.mono _ _ _)
      | (with_reducible exact fluxionlaw01_sum.mono _ _ _)
      | (with_reducible exact fluxionlaw01_tame.mono _ _ _)
      | (with_reducible exact nat_Compare.mono _ _ _)
      | (with_reducible exact nat_Root.mono _ _)
      | (with_reducible exact LeO.refl _)
      | (with_reducible exact LeO.none _)
      | (with_reducible refine LeO.ite ?_ ?_)
      | (with_reducible refine LeO.bind ?_ (fun _ => ?_))
      | exact ih0 _ _ _
      | exact ih1 _ _ _ _
      | exact ih2 _ _ _ _
      | exact ih3 _ _ _
      | exact fluxionlaw01_product.mono _ _ _
      | exact fluxionlaw01_same.mono _ _ _
      | exact fluxionlaw01_sum.mono _ _ _
      | exact fluxionlaw01_tame.mono _ _ _
      | exact nat_Compare.mono _ _ _
      | exact nat_Root.mono _ _
      | exact LeO.none _
      | refine LeO.ite ?_ ?_
      | refine LeO.bind ?_ (fun _ => ?_)
    · intro y0 y1 y2
      unfold fluxionlaw01_NatSquare.j3
      repeat' first
      | (with_reducible exact ih0 _ _ _)
      | (with_reducible exact ih1 _ _ _ _)
      | (with_reducible exact ih2 _ _ _ _)
      | (with_reducible exact ih3 _ _ _)
      | (with_reducible exact fluxionlaw01_product.mono _ _ _)
      | (with_reducible exact fluxionlaw01_same.mono _ _ _)
      | (with_reducible exact fluxionlaw01_sum.mono _ _ _)
      | (with_reducible exact fluxionlaw01_tame.mono _ _ _)
      | (with_reducible exact nat_Compare.mono _ _ _)
      | (with_reducible exact nat_Root.mono _ _)
      | (with_reducible exact LeO.refl _)
      | (with_reducible exact LeO.none _)
      | (with_reducible refine LeO.ite ?_ ?_)
      | (with_reducible refine LeO.bind ?_ (fun _ => ?_))
      | exact ih0 _ _ _
      | exact ih1 _ _ _ _
      | exact ih2 _ _ _ _
      | exact ih3 _ _ _
      | exact fluxionlaw01_product.mono _ _ _
      | exact fluxionlaw01_same.mono _ _ _
      | exact fluxionlaw01_sum.mono _ _ _
      | exact fluxionlaw01_tame.mono _ _ _
      | exact nat_Compare.mono _ _ _
      | exact nat_Root.mono _ _
      | exact LeO.none _
      | refine LeO.ite ?_ ?_
      | refine LeO.bind ?_ (fun _ => ?_)
theorem fluxionlaw01_NatSquare.mono : ∀ a0 k, LeO (fluxionlaw01_NatSquare.f k a0) (fluxionlaw01_NatSquare.f (k + 1) a0) := by
  intro a0 k
  obtain ⟨ih0, ih1, ih2, ih3⟩ := fluxionlaw01_NatSquare.mono_l k
  unfold fluxionlaw01_NatSquare.f
  repeat' first
      | (with_reducible exact ih0 _ _ _)
      | (with_reducible exact ih1 _ _ _ _)
      | (with_reducible exact ih2 _ _ _ _)
      | (with_reducible exact ih3 _ _ _)
      | (with_reducible exact fluxionlaw01_product.mono _ _ _)
      | (with_reducible exact fluxionlaw01_same.mono _ _ _)
      | (with_reducible exact fluxionlaw01_sum.mono _ _ _)
      | (with_reducible exact fluxionlaw01_tame.mono _ _ _)
      | (with_reducible exact nat_Compare.mono _ _ _)
      | (with_reducible exact nat_Root.mono _ _)
      | (with_reducible exact LeO.refl _)
      | (with_reducible exact LeO.none _)
      | (with_reducible refine LeO.ite ?_ ?_)
      | (with_reducible refine LeO.bind ?_ (fun _ => ?_))
      | exact ih0 _ _ _
      | exact ih1 _ _ _ _
      | exact ih2 _ _ _ _
      | exact ih3 _ _ _
      | exact fluxionlaw01_product.mono _ _ _
      | exact fluxionlaw01_same.mono _ _ _
      | exact fluxionlaw01_sum.mono _ _ _
      | exact fluxionlaw01_tame.mono _ _ _
      | exact nat_Compare.mono _ _ _
      | exact nat_Root.mono _ _
      | exact LeO.none _
      | refine LeO.ite ?_ ?_
      | refine LeO.bind ?_ (fun _ => ?_)
def fluxionlaw01_NatSquare.Pure : Prop := ∀ (l0 : List Int), l0.length ≤ maxLen → l0.length * 4 ≤ 140737488351232 → (∀ x ∈ l0, (Lit.int .u32 x).wf = true) → ∃ k, fluxionlaw01_NatSquare.f k l0 = some true

end Go.Proofs.Ytceglknbonfdeaa.PNat
