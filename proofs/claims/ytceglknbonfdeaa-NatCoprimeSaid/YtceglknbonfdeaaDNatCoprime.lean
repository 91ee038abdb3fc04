-- Printed by a program for this claim (wip/myprint.sh, wip/patchprint.py, wip/regroup.py)
import Derived.Test.YtceglknbonfdeaaDB
namespace Go.Proofs.Ytceglknbonfdeaa.PNat
open Go.RowKit Go.Proofs.YtceglknbonfdeaaW.PrintWords Go.Proofs.YtceglknbonfdeaaW.PrintLast Go.Proofs.YtceglknbonfdeaaW.PrintMore
set_option linter.unusedVariables false
set_option linter.unusedSimpArgs false

mutual
def fluxionlaw01_NatCoprime.j0 : Nat → List Int → List Int → List Int → List Int → Bool → Option (Bool)
  | 0, _, _, _, _, _ => none
  | k + 1, x7, x8, x9, x10, x74 => if x74 = true then none else (if (x10.length : Int) = 0 then ((fluxionlaw01_alive.f).bind fun t646 => (some t646)) else ((nat_Div.f k x7 x10).bind fun bt647 => ((nat_Div.f k x8 x10).bind fun bt654 => (if bt647.2.2 = 0 then (if bt654.2.2 = 0 then (if (bt647.2.1.length : Int) > 0 then none else (if (bt654.2.1.length : Int) > 0 then none else (if (bt647.1.length : Int) > 60 then none else (fluxionlaw01_NatCoprime.j1 k x7 x8 x9 x10 bt647.1 bt654.1 (decide ((bt654.1.length : Int) > 60)))))) else none) else none))))
def fluxionlaw01_NatCoprime.j1 : Nat → List Int → List Int → List Int → List Int → List Int → List Int → Bool → Option (Bool)
  | 0, _, _, _, _, _, _, _ => none
  | k + 1, x7, x8, x9, x10, x14, x16, x118 => if x118 = true then none else ((nat_Gcd.f k x14 x16).bind fun bt661 => ((fluxionlaw01_product.f k x7 x9).bind fun bt665 => ((fluxionlaw01_product.f k x8 x9).bind fun bt669 => (if bt661.2 = 0 then ((fluxionlaw01_same.f k bt661.1 (([1] : List Int))).bind fun t676 => (if t676 = true then (if bt665.2 = true then (if bt669.2 = true then (if (bt665.1.length : Int) > 80 then none else (fluxionlaw01_NatCoprime.j2 k x9 x10 bt665.1 bt669.1 (decide ((bt669.1.length : Int) > 80)))) else none) else none) else none)) else none))))
def fluxionlaw01_NatCoprime.j2 : Nat → List Int → List Int → List Int → List Int → Bool → Option (Bool)
  | 0, _, _, _, _, _ => none
  | k + 1, x9, x10, x20, x22, x162 => if x162 = true then none else ((nat_Gcd.f k x20 x22).bind fun bt677 => ((fluxionlaw01_product.f k x10 x9).bind fun bt681 => (if bt677.2 = 0 then (if bt681.2 = true then ((fluxionlaw01_same.f k bt677.1 bt681.1).bind fun t685 => (if t685 = true then ((fluxionlaw01_alive.f).bind fun t686 => (some t686)) else none)) else none) else none)))
end
def fluxionlaw01_NatCoprime.f (k : Nat) (l0 : List Int) (l1 : List Int) (l2 : List Int) : Option (Bool) := (fluxionlaw01_tame.f k l0 60).bind fun t628 => ((fluxionlaw01_tame.f k l1 60).bind fun t631 => ((fluxionlaw01_tame.f k l2 20).bind fun t634 => ((nat_Gcd.f k t628 t631).bind fun bt637 => ((nat_Gcd.f k t631 t628).bind fun bt641 => (if bt637.2 = 0 then (if bt641.2 = 0 then ((fluxionlaw01_same.f k bt637.1 bt641.1).bind fun t645 => (if t645 = true then (if (bt637.1.length : Int) > 60 then none else (fluxionlaw01_NatCoprime.j0 k t628 t631 t634 bt637.1 (((bt637.1.length : Int) == 0) != ((wrap64 ((t628.length : Int) + (t631.length : Int))) == 0)))) else none)) else none) else none)))))
theorem fluxionlaw01_NatCoprime.mono_l : ∀ k, (∀ y0 y1 y2 y3 y4, LeO (fluxionlaw01_NatCoprime.j0 k y0 y1 y2 y3 y4) (fluxionlaw01_NatCoprime.j0 (k + 1) y0 y1 y2 y3 y4)) ∧ (∀ y0 y1 y2 y3 y4 y5 y6, LeO (fluxionlaw01_NatCoprime.j1 k y0 y1 y2 y3 y4 y5 y6) (fluxionlaw01_NatCoprime.j1 (k + 1) y0 y1 y2 y3 y4 y5 y6)) ∧ (∀ y0 y1 y2 y3 y4, LeO (fluxionlaw01_NatCoprime.j2 k y0 y1 y2 y3 y4) (fluxionlaw01_NatCoprime.j2 (k + 1) y0 y1 y2 y3 y4))
  | 0 => ⟨fun _ _ _ _ _ r h => by simp [fluxionlaw01_NatCoprime.j0] at h, fun _ _ _ _ _ _ _ r h => by simp [fluxionlaw01_NatCoprime.j1] at h, fun _ _ _ _ _ r h => by simp [fluxionlaw01_NatCoprime.j2] at h⟩
  | k + 1 => by
    obtain ⟨ih0, ih1, ih2⟩ := fluxionlaw01_NatCoprime.mono_l k
    refine ⟨?_, ?_, ?_⟩
    · intro y0 y1 y2 y3 y4
      unfold fluxionlaw01_NatCoprime.j0
      repeat' first
      | (with_reducible exact ih0 _ _ _ _ _)
      | (with_reducible exact ih1 _ _ _ _ _ _ _)
      | (with_reducible exact ih2 _ _ _ _ _)
      | (with_reducible exact fluxionlaw01_product.mono _ _ _)
      | (with_reducible exact fluxionlaw01_same.mono _ _ _)
      | (with_reducible exact fluxionlaw01_tame.mono _ _ _)
      | (with_reducible exact nat_Div.mono _ _ _)
      | (with_reducible exact nat_Gcd.mono _ _ _)
      | (with_reducible exact LeO.refl _)
      | (with_reducible exact LeO.none _)
      | (with_reducible refine LeO.ite ?_ ?_)
      | (with_reducible refine LeO.bind ?_ (fun _ => ?_))
      | exact ih0 _ _ _ _ _
      | exact ih1 _ _ _ _ _ _ _
      | exact ih2 _ _ _ _ _
      | exact fluxionlaw01_product.mono _ _ _
      | exact fluxionlaw01_same.mono _ _ _
      | exact fluxionlaw01_tame.mono _ _ _
      | exact nat_Div.mono _ _ _
      | exact nat_Gcd.mono _ _ _
      | exact LeO.none _
      | refine LeO.ite ?_ ?_
      | refine LeO.bind ?_ (fun _ => ?_)
    · intro y0 y1 y2 y3 y4 y5 y6
      unfold fluxionlaw01_NatCoprime.j1
      repeat' first
      | (with_reducible exact ih0 _ _ _ _ _)
      | (with_reducible exact ih1 _ _ _ _ _ _ _)
      | (with_reducible exact ih2 _ _ _ _ _)
      | (with_reducible exact fluxionlaw01_product.mono _ _ _)
      | (with_reducible exact fluxionlaw01_same.mono _ _ _)
      | (with_reducible exact fluxionlaw01_tame.mono _ _ _)
      | (with_reducible exact nat_Div.mono _ _ _)
      | (with_reducible exact nat_Gcd.mono _ _ _)
      | (with_reducible exact LeO.refl _)
      | (with_reducible exact LeO.none _)
      | (with_reducible refine LeO.ite ?_ ?_)
      | (with_reducible refine LeO.bind ?_ (fun _ => ?_))
      | exact ih0 _ _ _ _ _
      | exact ih1 _ _ _ _ _ _ _
      | exact ih2 _ _ _ _ _
      | exact fluxionlaw01_product.mono _ _ _
      | exact fluxionlaw01_same.mono _ _ _
      | exact fluxionlaw01_tame.mono _ _ _
      | exact nat_Div.mono _ _ _
      | exact nat_Gcd.mono _ _ _
      | exact LeO.none _
      | refine LeO.ite ?_ ?_
      | refine LeO.bind ?_ (fun _ => ?_)
    · intro y0 y1 y2 y3 y4
      unfold fluxionlaw01_NatCoprime.j2
      repeat' first
      | (with_reducible exact ih0 _ _ _ _ _)
      | (with_reducible exact ih1 _ _ _ _ _ _ _)
      | (with_reducible exact ih2 _ _ _ _ _)
      | (with_reducible exact fluxionlaw01_product.mono _ _ _)
      | (with_reducible exact fluxionlaw01_same.mono _ _ _)
      | (with_reducible exact fluxionlaw01_tame.mono _ _ _)
      | (with_reducible exact nat_Div.mono _ _ _)
      | (with_reducible exact nat_Gcd.mono _ _ _)
      | (with_reducible exact LeO.refl _)
      | (with_reducible exact LeO.none _)
      | (with_reducible refine LeO.ite ?_ ?_)
      | (with_reducible refine LeO.bind ?_ (fun _ => ?_))
      | exact ih0 _ _ _ _ _
      | exact ih1 _ _ _ _ _ _ _
      | exact ih2 _ _ _ _ _
      | exact fluxionlaw01_product.mono _ _ _
      | exact fluxionlaw01_same.mono _ _ _
      | exact fluxionlaw01_tame.mono _ _ _
      | exact nat_Div.mono _ _ _
      | exact nat_Gcd.mono _ _ _
      | exact LeO.none _
      | refine LeO.ite ?_ ?_
      | refine LeO.bind ?_ (fun _ => ?_)
theorem fluxionlaw01_NatCoprime.mono : ∀ a0 a1 a2 k, LeO (fluxionlaw01_NatCoprime.f k a0 a1 a2) (fluxionlaw01_NatCoprime.f (k + 1) a0 a1 a2) := by
  intro a0 a1 a2 k
  obtain ⟨ih0, ih1, ih2⟩ := fluxionlaw01_NatCoprime.mono_l k
  unfold fluxionlaw01_NatCoprime.f
  repeat' first
      | (with_reducible exact ih0 _ _ _ _ _)
      | (with_reducible exact ih1 _ _ _ _ _ _ _)
      | (with_reducible exact ih2 _ _ _ _ _)
      | (with_reducible exact fluxionlaw01_product.mono _ _ _)
      | (with_reducible exact fluxionlaw01_same.mono _ _ _)
      | (with_reducible exact fluxionlaw01_tame.mono _ _ _)
      | (with_reducible exact nat_Div.mono _ _ _)
      | (with_reducible exact nat_Gcd.mono _ _ _)
      | (with_reducible exact LeO.refl _)
      | (with_reducible exact LeO.none _)
      | (with_reducible refine LeO.ite ?_ ?_)
      | (with_reducible refine LeO.bind ?_ (fun _ => ?_))
      | exact ih0 _ _ _ _ _
      | exact ih1 _ _ _ _ _ _ _
      | exact ih2 _ _ _ _ _
      | exact fluxionlaw01_product.mono _ _ _
      | exact fluxionlaw01_same.mono _ _ _
      | exact fluxionlaw01_tame.mono _ _ _
      | exact nat_Div.mono _ _ _
      | exact nat_Gcd.mono _ _ _
      | exact LeO.none _
      | refine LeO.ite ?_ ?_
      | refine LeO.bind ?_ (fun _ => ?_)
def fluxionlaw01_NatCoprime.Pure : Prop := ∀ (l0 : List Int) (l1 : List Int) (l2 : List Int), l0.length ≤ maxLen → l0.length * 4 ≤ 140737488351232 → (∀ x ∈ l0, (Lit.int .u32 x).wf = true) → l1.length ≤ maxLen → l1.length * 4 ≤ 140737488351232 → (∀ x ∈ l1, (Lit.int .u32 x).wf = true) → l2.length ≤ maxLen → l2.length * 4 ≤ 140737488351232 → (∀ x ∈ l2, (Lit.int .u32 x).wf = true) → ∃ k, fluxionlaw01_NatCoprime.f k l0 l1 l2 = some true

end Go.Proofs.Ytceglknbonfdeaa.PNat
