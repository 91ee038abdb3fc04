-- Printed by a program for this claim (wip/myprint.sh, wip/patchprint.py, wip/regroup.py)
import Derived.Test.YtceglknbonfdeaaDS
namespace Go.Proofs.Ytceglknbonfdeaa.PNat
open Go.RowKit Go.Proofs.YtceglknbonfdeaaW.PrintWords Go.Proofs.YtceglknbonfdeaaW.PrintLast Go.Proofs.YtceglknbonfdeaaW.PrintMore
set_option linter.unusedVariables false
set_option linter.unusedSimpArgs false

mutual
def fluxionlaw01_NatForms.j0 : Nat → List Int → Int → Bool → Option (Bool)
  | 0, _, _, _ => none
  | k + 1, x5, x6, x29 => if x29 = true then none else ((nat_Small2.f k x5).bind fun bt750 => ((nat_Bits.f k x5).bind fun bt752 => (if x6 = 0 then ((fluxionref01_Small.f k x5).bind fun bt755 => (if bt755.2 = true then (if bt750.1 = bt755.1 then (fluxionlaw01_NatForms.j1 k x5 bt752.1 bt752.2 (bt750.2 != 0)) else none) else (if bt750.1 = 0 then (fluxionlaw01_NatForms.j2 k x5 bt752.1 bt752.2 (bt750.2 != 4)) else none))) else (if bt750.1 = 0 then (if bt750.2 = x6 then (if bt752.1 = 0 then (if bt752.2 = x6 then ((fluxionlaw01_alive.f).bind fun t754 => (some t754)) else none) else none) else none) else none))))
def fluxionlaw01_NatForms.j1 : Nat → List Int → Int → Int → Bool → Option (Bool)
  | 0, _, _, _, _ => none
  | k + 1, x5, x9, x10, x80 => if x80 = true then none else ((fluxionref01_Bits.f k x5).bind fun t757 => (if x9 = t757 then (if x10 = 0 then ((fluxionlaw01_alive.f).bind fun t758 => (some t758)) else none) else none))
def fluxionlaw01_NatForms.j2 : Nat → List Int → Int → Int → Bool → Option (Bool)
  | 0, _, _, _, _ => none
  | k + 1, x5, x9, x10, x73 => if x73 = true then none else ((fluxionref01_Bits.f k x5).bind fun t759 => (if x9 = t759 then (if x10 = 0 then ((fluxionlaw01_alive.f).bind fun t760 => (some t760)) else none) else none))
end
def fluxionlaw01_NatForms.f (k : Nat) (l0 : List Int) (a1 : Int) : Option (Bool) := (fluxionlaw01_cut.f l0 516).bind fun t738 => ((fluxionref01_Valid.f t738).bind fun t741 => ((nat_IsNat.f k t738).bind fun t742 => (if (t742 != (t741 == 0)) = true then none else ((nat_Of.f k a1).bind fun t743 => ((fluxionref01_Of.f k a1).bind fun t746 => ((fluxionlaw01_same.f k t743 t746).bind fun t749 => (fluxionlaw01_NatForms.j0 k t738 t741 (!t749))))))))
theorem fluxionlaw01_NatForms.mono_l : ∀ k, (∀ y0 y1 y2, LeO (fluxionlaw01_NatForms.j0 k y0 y1 y2) (fluxionlaw01_NatForms.j0 (k + 1) y0 y1 y2)) ∧ (∀ y0 y1 y2 y3, LeO (fluxionlaw01_NatForms.j1 k y0 y1 y2 y3) (fluxionlaw01_NatForms.j1 (k + 1) y0 y1 y2 y3)) ∧ (∀ y0 y1 y2 y3, LeO (fluxionlaw01_NatForms.j2 k y0 y1 y2 y3) (fluxionlaw01_NatForms.j2 (k + 1) y0 y1 y2 y3))
  | 0 => ⟨fun _ _ _ r h => by simp [fluxionlaw01_NatForms.j0] at h, fun _ _ _ _ r h => by simp [fluxionlaw01_NatForms.j1] at h, fun _ _ _ _ r h => by simp [fluxionlaw01_NatForms.j2] at h⟩
  | k + 1 => by
    obtain ⟨ih0, ih1, ih2⟩ := fluxionlaw01_NatForms.mono_l k
    refine ⟨?_, ?_, ?_⟩
    · intro y0 y1 y2
      unfold fluxionlaw01_NatForms.j0
      repeat' first
      | (with_reducible exact ih0 _ _ _)
      | (with_reducible exact ih1 _ _ _ _)
      | (with_reducible exact ih2 _ _ _ _)
      | (with_reducible exact fluxionlaw01_same.mono _ _ _)
      | (with_reducible exact fluxionref01_Bits.mono _ _)
      | (with_reducible exact fluxionref01_Of.mono _ _)
      | (with_reducible exact fluxionref01_Small.mono _ _)
      | (with_reducible exact nat_Bits.mono _ _)
      | (with_reducible exact nat_IsNat.mono _ _)
      | (with_reducible exact nat_Of.mono _ _)
      | (with_reducible exact nat_Small2.mono _ _)
      | (with_reducible exact LeO.refl _)
      | (with_reducible exact LeO.none _)
      | (with_reducible refine LeO.ite ?_ ?_)
      | (with_reducible refine LeO.bind ?_ (fun _ => ?_))
      | exact ih0 _ _ _
      | exact ih1 _ _ _ _
      | exact ih2 _ _ _ _
      | exact fluxionlaw01_same.mono _ _ _
      | exact fluxionref01_Bits.mono _ _
      | exact fluxionref01_Of.mono _ _
      | exact fluxionref01_Small.mono _ _
      | exact nat_Bits.mono _ _
      | exact nat_IsNat.mono _ _
      | exact nat_Of.mono _ _
      | exact nat_Small2.mono _ _
      | exact LeO.none _
      | refine LeO.ite ?_ ?_
      | refine LeO.bind ?_ (fun _ => ?_)
    · intro y0 y1 y2 y3
      unfold fluxionlaw01_NatForms.j1
      repeat' first
      | (with_reducible exact ih0 _ _ _)
      | (with_reducible exact ih1 _ _ _ _)
      | (with_reducible exact ih2 _ _ _ _)
      | (with_reducible exact fluxionlaw01_same.mono _ _ _)
      | (with_reducible exact fluxionref01_Bits.mono _ _)
      | (with_reducible exact fluxionref01_Of.mono _ _)
      | (with_reducible exact fluxionref01_Small.mono _ _)
      | (with_reducible exact nat_Bits.mono _ _)
      | (with_reducible exact nat_IsNat.mono _ _)
      | (with_reducible exact nat_Of.mono _ _)
      | (with_reducible exact nat_Small2.mono _ _)
      | (with_reducible exact LeO.refl _)
      | (with_reducible exact LeO.none _)
      | (with_reducible refine LeO.ite ?_ ?_)
      | (with_reducible refine LeO.bind ?_ (fun _ => ?_))
      | exact ih0 _ _ _
      | exact ih1 _ _ _ _
      | exact ih2 _ _ _ _
      | exact fluxionlaw01_same.mono _ _ _
      | exact fluxionref01_Bits.mono _ _
      | exact fluxionref01_Of.mono _ _
      | exact fluxionref01_Small.mono _ _
      | exact nat_Bits.mono _ _
      | exact nat_IsNat.mono _ _
      | exact nat_Of.mono _ _
      | exact nat_Small2.mono _ _
      | exact LeO.none _
      | refine LeO.ite ?_ ?_
      | refine LeO.bind ?_ (fun _ => ?_)
    · intro y0 y1 y2 y3
      unfold fluxionlaw01_NatForms.j2
      repeat' first
      | (with_reducible exact ih0 _ _ _)
      | (with_reducible exact ih1 _ _ _ _)
      | (with_reducible exact ih2 _ _ _ _)
      | (with_reducible exact fluxionlaw01_same.mono _ _ _)
      | (with_reducible exact fluxionref01_Bits.mono _ _)
      | (with_reducible exact fluxionref01_Of.mono _ _)
      | (with_reducible exact fluxionref01_Small.mono _ _)
      | (with_reducible exact nat_Bits.mono _ _)
      | (with_reducible exact nat_IsNat.mono _ _)
      | (with_reducible exact nat_Of.mono _ _)
      | (with_reducible exact nat_Small2.mono _ _)
      | (with_reducible exact LeO.refl _)
      | (with_reducible exact LeO.none _)
      | (with_reducible refine LeO.ite ?_ ?_)
      | (with_reducible refine LeO.bind ?_ (fun _ => ?_))
      | exact ih0 _ _ _
      | exact ih1 _ _ _ _
      | exact ih2 _ _ _ _
      | exact fluxionlaw01_same.mono _ _ _
      | exact fluxionref01_Bits.mono _ _
      | exact fluxionref01_Of.mono _ _
      | exact fluxionref01_Small.mono _ _
      | exact nat_Bits.mono _ _
      | exact nat_IsNat.mono _ _
      | exact nat_Of.mono _ _
      | exact nat_Small2.mono _ _
      | exact LeO.none _
      | refine LeO.ite ?_ ?_
      | refine LeO.bind ?_ (fun _ => ?_)
theorem fluxionlaw01_NatForms.mono : ∀ a0 a1 k, LeO (fluxionlaw01_NatForms.f k a0 a1) (fluxionlaw01_NatForms.f (k + 1) a0 a1) := by
  intro a0 a1 k
  obtain ⟨ih0, ih1, ih2⟩ := fluxionlaw01_NatForms.mono_l k
  unfold fluxionlaw01_NatForms.f
  repeat' first
      | (with_reducible exact ih0 _ _ _)
      | (with_reducible exact ih1 _ _ _ _)
      | (with_reducible exact ih2 _ _ _ _)
      | (with_reducible exact fluxionlaw01_same.mono _ _ _)
      | (with_reducible exact fluxionref01_Bits.mono _ _)
      | (with_reducible exact fluxionref01_Of.mono _ _)
      | (with_reducible exact fluxionref01_Small.mono _ _)
      | (with_reducible exact nat_Bits.mono _ _)
      | (with_reducible exact nat_IsNat.mono _ _)
      | (with_reducible exact nat_Of.mono _ _)
      | (with_reducible exact nat_Small2.mono _ _)
      | (with_reducible exact LeO.refl _)
      | (with_reducible exact LeO.none _)
      | (with_reducible refine LeO.ite ?_ ?_)
      | (with_reducible refine LeO.bind ?_ (fun _ => ?_))
      | exact ih0 _ _ _
      | exact ih1 _ _ _ _
      | exact ih2 _ _ _ _
      | exact fluxionlaw01_same.mono _ _ _
      | exact fluxionref01_Bits.mono _ _
      | exact fluxionref01_Of.mono _ _
      | exact fluxionref01_Small.mono _ _
      | exact nat_Bits.mono _ _
      | exact nat_IsNat.mono _ _
      | exact nat_Of.mono _ _
      | exact nat_Small2.mono _ _
      | exact LeO.none _
      | refine LeO.ite ?_ ?_
      | refine LeO.bind ?_ (fun _ => ?_)
def fluxionlaw01_NatForms.Pure : Prop := ∀ (l0 : List Int) (a1 : Int), l0.length ≤ maxLen → l0.length * 4 ≤ 140737488351232 → (∀ x ∈ l0, (Lit.int .u32 x).wf = true) → (Lit.int .u64 a1).wf = true → ∃ k, fluxionlaw01_NatForms.f k l0 a1 = some true

end Go.Proofs.Ytceglknbonfdeaa.PNat
