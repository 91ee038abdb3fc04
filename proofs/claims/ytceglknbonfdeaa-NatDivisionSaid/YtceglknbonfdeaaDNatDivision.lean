-- Printed by a program for this claim (wip/myprint.sh, wip/patchprint.py, wip/regroup.py)
import Derived.Test.YtceglknbonfdeaaDB
namespace Go.Proofs.Ytceglknbonfdeaa.PNat
open Go.RowKit Go.Proofs.YtceglknbonfdeaaW.PrintWords Go.Proofs.YtceglknbonfdeaaW.PrintLast Go.Proofs.YtceglknbonfdeaaW.PrintMore
set_option linter.unusedVariables false
set_option linter.unusedSimpArgs false

mutual
def fluxionlaw01_NatDivision.j0 : Nat → List Int → List Int → List Int → List Int → Bool → Option (Bool)
  | 0, _, _, _, _, _ => none
  | k + 1, x5, x6, x7, x8, x62 => if x62 = true then (some false) else ((nat_Compare.f k x8 x6).bind fun bt910 => ((fluxionlaw01_product.f k x7 x6).bind fun bt912 => (if bt910.2 = 0 then (if bt910.1 = (-1) then (if bt912.2 = true then (fluxionlaw01_NatDivision.j1 k x5 x8 bt912.1 (decide ((bt912.1.length : Int) > 512))) else (fluxionlaw01_NatDivision.j1 k x5 x8 bt912.1 true)) else (fluxionlaw01_NatDivision.j1 k x5 x8 bt912.1 true)) else (fluxionlaw01_NatDivision.j1 k x5 x8 bt912.1 true))))
def fluxionlaw01_NatDivision.j1 : Nat → List Int → List Int → List Int → Bool → Option (Bool)
  | 0, _, _, _, _ => none
  | k + 1, x5, x8, x12, x89 => if x89 = true then (some false) else ((fluxionlaw01_sum.f k x12 x8).bind fun bt916 => (if bt916.2 = true then ((fluxionlaw01_same.f k bt916.1 x5).bind fun t920 => (if t920 = true then ((fluxionlaw01_alive.f).bind fun t921 => (some t921)) else (some false))) else (some false)))
end
def fluxionlaw01_NatDivision.f (k : Nat) (l0 : List Int) (l1 : List Int) : Option (Bool) := (fluxionlaw01_tame.f k l0 512).bind fun t894 => ((fluxionlaw01_tame.f k l1 512).bind fun t897 => ((nat_Div.f k t894 t897).bind fun bt900 => (if (t897.length : Int) = 0 then (if bt900.2.2 = 11 then (if (bt900.1.length : Int) = 0 then (if (bt900.2.1.length : Int) = 0 then ((fluxionlaw01_alive.f).bind fun t907 => (some t907)) else (some false)) else (some false)) else (some false)) else (if bt900.2.2 = 0 then ((nat_IsNat.f k bt900.1).bind fun t908 => (if t908 = true then ((nat_IsNat.f k bt900.2.1).bind fun t909 => (if t909 = true then (fluxionlaw01_NatDivision.j0 k t894 t897 bt900.1 bt900.2.1 (decide ((bt900.1.length : Int) > (t894.length : Int)))) else (fluxionlaw01_NatDivision.j0 k t894 t897 bt900.1 bt900.2.1 true))) else (fluxionlaw01_NatDivision.j0 k t894 t897 bt900.1 bt900.2.1 true))) else (fluxionlaw01_NatDivision.j0 k t894 t897 bt900.1 bt900.2.1 true)))))
theorem fluxionlaw01_NatDivision.mono_l : ∀ k, (∀ y0 y1 y2 y3 y4, LeO (fluxionlaw01_NatDivision.j0 k y0 y1 y2 y3 y4) (fluxionlaw01_NatDivision.j0 (k + 1) y0 y1 y2 y3 y4)) ∧ (∀ y0 y1 y2 y3, LeO (fluxionlaw01_NatDivision.j1 k y0 y1 y2 y3) (fluxionlaw01_NatDivision.j1 (k + 1) y0 y1 y2 y3))
  | 0 => ⟨fun _ _ _ _ _ r h => by simp [fluxionlaw01_NatDivision.j0] at h, fun _ _ _ _ r h => by simp [fluxionlaw01_NatDivision.j1] at h⟩
  | k + 1 => by
    obtain ⟨ih0, ih1⟩ := fluxionlaw01_NatDivision.mono_l k
    refine ⟨?_, ?_⟩
    · intro y0 y1 y2 y3 y4
      unfold fluxionlaw01_NatDivision.j0
      repeat' first
      | (with_reducible exact ih0 _ _ _ _ _)
      | (with_reducible exact ih1 _ _ _ _)
      | (with_reducible exact fluxionlaw01_product.mono _ _ _)
      | (with_reducible exact fluxionlaw01_same.mono _ _ _)
      | (with_reducible exact fluxionlaw01_sum.mono _ _ _)
      | (with_reducible exact fluxionlaw01_tame.mono _ _ _)
      | (with_reducible exact nat_Compare.mono _ _ _)
      | (with_reducible exact nat_Div.mono _ _ _)
      | (with_reducible exact nat_IsNat.mono _ _)
      | (with_reducible exact LeO.refl _)
      | (with_reducible exact LeO.none _)
      | (with_reducible refine LeO.ite ?_ ?_)
      | (with_reducible refine LeO.bind ?_ (fun _ => ?_))
      | exact ih0 _ _ _ _ _
      | exact ih1 _ _ _ _
      | exact fluxionlaw01_product.mono _ _ _
      | exact fluxionlaw01_same.mono _ _ _
      | exact fluxionlaw01_sum.mono _ _ _
      | exact fluxionlaw01_tame.mono _ _ _
      | exact nat_Compare.mono _ _ _
      | exact nat_Div.mono _ _ _
      | exact nat_IsNat.mono _ _
      | exact LeO.none _
      | refine LeO.ite ?_ ?_
      | refine LeO.bind ?_ (fun _ => ?_)
    · intro y0 y1 y2 y3
      unfold fluxionlaw01_NatDivision.j1
      repeat' first
      | (with_reducible exact ih0 _ _ _ _ _)
      | (with_reducible exact ih1 _ _ _ _)
      | (with_reducible exact fluxionlaw01_product.mono _ _ _)
      | (with_reducible exact fluxionlaw01_same.mono _ _ _)
      | (with_reducible exact fluxionlaw01_sum.mono _ _ _)
      | (with_reducible exact fluxionlaw01_tame.mono _ _ _)
      | (with_reducible exact nat_Compare.mono _ _ _)
      | (with_reducible exact nat_Div.mono _ _ _)
      | (with_reducible exact nat_IsNat.mono _ _)
      | (with_reducible exact LeO.refl _)
      | (with_reducible exact LeO.none _)
      | (with_reducible refine LeO.ite ?_ ?_)
      | (with_reducible refine LeO.bind ?_ (fun _ => ?_))
      | exact ih0 _ _ _ _ _
      | exact ih1 _ _ _ _
      | exact fluxionlaw01_product.mono _ _ _
      | exact fluxionlaw01_same.mono _ _ _
      | exact fluxionlaw01_sum.mono _ _ _
      | exact fluxionlaw01_tame.mono _ _ _
      | exact nat_Compare.mono _ _ _
      | exact nat_Div.mono _ _ _
      | exact nat_IsNat.mono _ _
      | exact LeO.none _
      | refine LeO.ite ?_ ?_
      | refine LeO.bind ?_ (fun _ => ?_)
theorem fluxionlaw01_NatDivision.mono : ∀ a0 a1 k, LeO (fluxionlaw01_NatDivision.f k a0 a1) (fluxionlaw01_NatDivision.f (k + 1) a0 a1) := by
  intro a0 a1 k
  obtain ⟨ih0, ih1⟩ := fluxionlaw01_NatDivision.mono_l k
  unfold fluxionlaw01_NatDivision.f
  repeat' first
      | (with_reducible exact ih0 _ _ _ _ _)
      | (with_reducible exact ih1 _ _ _ _)
      | (with_reducible exact fluxionlaw01_product.mono _ _ _)
      | (with_reducible exact fluxionlaw01_same.mono _ _ _)
      | (with_reducible exact fluxionlaw01_sum.mono _ _ _)
      | (with_reducible exact fluxionlaw01_tame.mono _ _ _)
      | (with_reducible exact nat_Compare.mono _ _ _)
      | (with_reducible exact nat_Div.mono _ _ _)
      | (with_reducible exact nat_IsNat.mono _ _)
      | (with_reducible exact LeO.refl _)
      | (with_reducible exact LeO.none _)
      | (with_reducible refine LeO.ite ?_ ?_)
      | (with_reducible refine LeO.bind ?_ (fun _ => ?_))
      | exact ih0 _ _ _ _ _
      | exact ih1 _ _ _ _
      | exact fluxionlaw01_product.mono _ _ _
      | exact fluxionlaw01_same.mono _ _ _
      | exact fluxionlaw01_sum.mono _ _ _
      | exact fluxionlaw01_tame.mono _ _ _
      | exact nat_Compare.mono _ _ _
      | exact nat_Div.mono _ _ _
      | exact nat_IsNat.mono _ _
      | exact LeO.none _
      | refine LeO.ite ?_ ?_
      | refine LeO.bind ?_ (fun _ => ?_)
def fluxionlaw01_NatDivision.Pure : Prop := ∀ (l0 : List Int) (l1 : List Int), l0.length ≤ maxLen → l0.length * 4 ≤ 140737488351232 → (∀ x ∈ l0, (Lit.int .u32 x).wf = true) → l1.length ≤ maxLen → l1.length * 4 ≤ 140737488351232 → (∀ x ∈ l1, (Lit.int .u32 x).wf = true) → ∃ k, fluxionlaw01_NatDivision.f k l0 l1 = some true

end Go.Proofs.Ytceglknbonfdeaa.PNat
