-- Printed by a program for this claim (wip/myprint.sh, wip/patchprint.py, wip/regroup.py)
import Derived.Test.YtceglknbonfdeaaDB
namespace Go.Proofs.Ytceglknbonfdeaa.PNat
open Go.RowKit Go.Proofs.YtceglknbonfdeaaW.PrintWords Go.Proofs.YtceglknbonfdeaaW.PrintLast Go.Proofs.YtceglknbonfdeaaW.PrintMore
set_option linter.unusedVariables false
set_option linter.unusedSimpArgs false

mutual
def fluxionlaw01_NatReads.j0 : Nat → ByteArray → List Int → ByteArray → Bool → Option (Bool)
  | 0, _, _, _, _ => none
  | k + 1, x1, x5, x6, x37 => if x37 = true then (some false) else ((nat_Parse.f k x6).bind fun bt692 => (if (x6.size : Int) > 4900 then (if bt692.2 = 3 then (if (bt692.1.length : Int) > 0 then (some false) else (fluxionlaw01_NatReads.j1 k x1 x5 x6)) else (some false)) else (if bt692.2 = 0 then ((fluxionlaw01_same.f k bt692.1 x5).bind fun t696 => (if t696 = true then (fluxionlaw01_NatReads.j1 k x1 x5 x6) else (some false))) else (some false))))
def fluxionlaw01_NatReads.j1 : Nat → ByteArray → List Int → ByteArray → Option (Bool)
  | 0, _, _, _ => none
  | k + 1, x1, x5, x6 => if (x5.length : Int) > 0 then (fluxionlaw01_NatReads.j2 k x1 x5 x6 (decide ((x5.length : Int) < 512))) else (fluxionlaw01_NatReads.j2 k x1 x5 x6 false)
def fluxionlaw01_NatReads.j2 : Nat → ByteArray → List Int → ByteArray → Bool → Option (Bool)
  | 0, _, _, _, _ => none
  | k + 1, x1, x5, x6, x68 => if x68 = true then ((fluxionlaw01_product.f k x5 (([10] : List Int))).bind fun bt700 => (if bt700.2 = true then (fluxionlaw01_NatReads.j3 k x1 x6 bt700.1 (decide ((bt700.1.length : Int) > (wrap64 ((x5.length : Int) + 1))))) else (fluxionlaw01_NatReads.j3 k x1 x6 bt700.1 true))) else (fluxionlaw01_NatReads.j4 k x1)
def fluxionlaw01_NatReads.j4 : Nat → ByteArray → Option (Bool)
  | 0, _ => none
  | k + 1, x1 => if 0 ≤ (mn (x1.size : Int) 1000) then (if (mn (x1.size : Int) 1000) ≤ (x1.size : Int) then ((nat_Parse.f k (x1.extract 0 ((mn (x1.size : Int) 1000) : Int).toNat)).bind fun bt706 => (if bt706.2 = 0 then ((nat_Text.f k bt706.1).bind fun bt710 => (if bt710.2 = 0 then (if bt710.1.toList = (x1.extract 0 ((mn (x1.size : Int) 1000) : Int).toNat).toList then ((fluxionlaw01_alive.f).bind fun t712 => (some t712)) else (some false)) else (some false))) else (if (bt706.1.length : Int) = 0 then ((fluxionlaw01_alive.f).bind fun t713 => (some t713)) else (some false)))) else (none)) else (none)
def fluxionlaw01_NatReads.j3 : Nat → ByteArray → ByteArray → List Int → Bool → Option (Bool)
  | 0, _, _, _, _ => none
  | k + 1, x1, x6, x10, x84 => if x84 = true then (some false) else ((nat_Text.f k x10).bind fun bt704 => (if bt704.2 = 0 then (if x6.size + 1 ≤ 9223372036854775807 then (if bt704.1.toList = (x6 ++ (⟨#[48]⟩ : ByteArray)).toList then (fluxionlaw01_NatReads.j4 k x1) else (some false)) else (none)) else (some false)))
end
def fluxionlaw01_NatReads.f (k : Nat) (l0 : List Int) (a1 : ByteArray) : Option (Bool) := (fluxionlaw01_tame.f k l0 512).bind fun t687 => ((nat_Text.f k t687).bind fun bt690 => (if bt690.2 = 0 then (if (bt690.1.size : Int) < 1 then (fluxionlaw01_NatReads.j0 k a1 t687 bt690.1 true) else (fluxionlaw01_NatReads.j0 k a1 t687 bt690.1 (decide ((bt690.1.size : Int) > 5000)))) else (fluxionlaw01_NatReads.j0 k a1 t687 bt690.1 true)))
theorem fluxionlaw01_NatReads.mono_l : ∀ k, (∀ y0 y1 y2 y3, LeO (fluxionlaw01_NatReads.j0 k y0 y1 y2 y3) (fluxionlaw01_NatReads.j0 (k + 1) y0 y1 y2 y3)) ∧ (∀ y0 y1 y2, LeO (fluxionlaw01_NatReads.j1 k y0 y1 y2) (fluxionlaw01_NatReads.j1 (k + 1) y0 y1 y2)) ∧ (∀ y0 y1 y2 y3, LeO (fluxionlaw01_NatReads.j2 k y0 y1 y2 y3) (fluxionlaw01_NatReads.j2 (k + 1) y0 y1 y2 y3)) ∧ (∀ y0, LeO (fluxionlaw01_NatReads.j4 k y0) (fluxionlaw01_NatReads.j4 (k + 1) y0)) ∧ (∀ y0 y1 y2 y3, LeO (fluxionlaw01_NatReads.j3 k y0 y1 y2 y3) (fluxionlaw01_NatReads.j3 (k + 1) y0 y1 y2 y3))
  | 0 => ⟨fun _ _ _ _ r h => by simp [fluxionlaw01_NatReads.j0] at h, fun _ _ _ r h => by simp [fluxionlaw01_NatReads.j1] at h, fun _ _ _ _ r h => by simp [fluxionlaw01_NatReads.j2] at h, fun _ r h => by simp [fluxionlaw01_NatReads.j4] at h, fun _ _ _ _ r h => by simp [fluxionlaw01_NatReads.j3] at h⟩
  | k + 1 => by
    obtain ⟨ih0, ih1, ih2, ih3, ih4⟩ := fluxionlaw01_NatReads.mono_l k
    refine ⟨?_, ?_, ?_, ?_, ?_⟩
    · intro y0 y1 y2 y3
      unfold fluxionlaw01_NatReads.j0
      repeat' first
      | (with_reducible exact ih0 _ _ _ _)
      | (with_reducible exact ih1 _ _ _)
      | (with_reducible exact ih2 _ _ _ _)
      | (with_reducible exact ih3 _)
      | (with_reducible exact ih4 _ _ _ _)
      | (with_reducible exact fluxionlaw01_product.mono _ _ _)
      | (with_reducible exact fluxionlaw01_same.mono _ _ _)
      | (with_reducible exact fluxionlaw01_tame.mono _ _ _)
      | (with_reducible exact nat_Parse.mono _ _)
      | (with_reducible exact nat_Text.mono _ _)
      | (with_reducible exact LeO.refl _)
      | (with_reducible exact LeO.none _)
      | (with_reducible refine LeO.ite ?_ ?_)
      | (with_reducible refine LeO.bind ?_ (fun _ => ?_))
      | exact ih0 _ _ _ _
      | exact ih1 _ _ _
      | exact ih2 _ _ _ _
      | exact ih3 _
      | exact ih4 _ _ _ _
      | exact fluxionlaw01_product.mono _ _ _
      | exact fluxionlaw01_same.mono _ _ _
      | exact fluxionlaw01_tame.mono _ _ _
      | exact nat_Parse.mono _ _
      | exact nat_Text.mono _ _
      | exact LeO.none _
      | refine LeO.ite ?_ ?_
      | refine LeO.bind ?_ (fun _ => ?_)
    · intro y0 y1 y2
      unfold fluxionlaw01_NatReads.j1
      repeat' first
      | (with_reducible exact ih0 _ _ _ _)
      | (with_reducible exact ih1 _ _ _)
      | (with_reducible exact ih2 _ _ _ _)
      | (with_reducible exact ih3 _)
      | (with_reducible exact ih4 _ _ _ _)
      | (with_reducible exact fluxionlaw01_product.mono _ _ _)
      | (with_reducible exact fluxionlaw01_same.mono _ _ _)
      | (with_reducible exact fluxionlaw01_tame.mono _ _ _)
      | (with_reducible exact nat_Parse.mono _ _)
      | (with_reducible exact nat_Text.mono _ _)
      | (with_reducible exact LeO.refl _)
      | (with_reducible exact LeO.none _)
      | (with_reducible refine LeO.ite ?_ ?_)
      | (with_reducible refine LeO.bind ?_ (fun _ => ?_))
      | exact ih0 _ _ _ _
      | exact ih1 _ _ _
      | exact ih2 _ _ _ _
      | exact ih3 _
      | exact ih4 _ _ _ _
      | exact fluxionlaw01_product.mono _ _ _
      | exact fluxionlaw01_same.mono _ _ _
      | exact fluxionlaw01_tame.mono _ _ _
      | exact nat_Parse.mono _ _
      | exact nat_Text.mono _ _
      | exact LeO.none _
      | refine LeO.ite ?_ ?_
      | refine LeO.bind ?_ (fun _ => ?_)
    · intro y0 y1 y2 y3
      unfold fluxionlaw01_NatReads.j2
      repeat' first
      | (with_reducible exact ih0 _ _ _ _)
      | (with_reducible exact ih1 _ _ _)
      | (with_reducible exact ih2 _ _ _ _)
      | (with_reducible exact ih3 _)
      | (with_reducible exact ih4 _ _ _ _)
      | (with_reducible exact fluxionlaw01_product.mono _ _ _)
      | (with_reducible exact fluxionlaw01_same.mono _ _ _)
      | (with_reducible exact fluxionlaw01_tame.mono _ _ _)
      | (with_reducible exact nat_Parse.mono _ _)
      | (with_reducible exact nat_Text.mono _ _)
      | (with_reducible exact LeO.refl _)
      | (with_reducible exact LeO.none _)
      | (with_reducible refine LeO.ite ?_ ?_)
      | (with_reducible refine LeO.bind ?_ (fun _ => ?_))
      | exact ih0 _ _ _ _
      | exact ih1 _ _ _
      | exact ih2 _ _ _ _
      | exact ih3 _
      | exact ih4 _ _ _ _
      | exact fluxionlaw01_product.mono _ _ _
      | exact fluxionlaw01_same.mono _ _ _
      | exact fluxionlaw01_tame.mono _ _ _
      | exact nat_Parse.mono _ _
      | exact nat_Text.mono _ _
      | exact LeO.none _
      | refine LeO.ite ?_ ?_
      | refine LeO.bind ?_ (fun _ => ?_)
    · intro y0
      unfold fluxionlaw01_NatReads.j4
      repeat' first
      | (with_reducible exact ih0 _ _ _ _)
      | (with_reducible exact ih1 _ _ _)
      | (with_reducible exact ih2 _ _ _ _)
      | (with_reducible exact ih3 _)
      | (with_reducible exact ih4 _ _ _ _)
      | (with_reducible exact fluxionlaw01_product.mono _ _ _)
      | (with_reducible exact fluxionlaw01_same.mono _ _ _)
      | (with_reducible exact fluxionlaw01_tame.mono _ _ _)
      | (with_reducible exact nat_Parse.mono _ _)
      | (with_reducible exact nat_Text.mono _ _)
      | (with_reducible exact LeO.refl _)
      | (with_reducible exact LeO.none _)
      | (with_reducible refine LeO.ite ?_ ?_)
      | (with_reducible refine LeO.bind ?_ (fun _ => ?_))
      | exact ih0 _ _ _ _
      | exact ih1 _ _ _
      | exact ih2 _ _ _ _
      | exact ih3 _
      | exact ih4 _ _ _ _
      | exact fluxionlaw01_product.mono _ _ _
      | exact fluxionlaw01_same.mono _ _ _
      | exact fluxionlaw01_tame.mono _ _ _
      | exact nat_Parse.mono _ _
      | exact nat_Text.mono _ _
      | exact LeO.none _
      | refine LeO.ite ?_ ?_
      | refine LeO.bind ?_ (fun _ => ?_)
    · intro y0 y1 y2 y3
      unfold fluxionlaw01_NatReads.j3
      repeat' first
      | (with_reducible exact ih0 _ _ _ _)
      | (with_reducible exact ih1 _ _ _)
      | (with_reducible exact ih2 _ _ _ _)
      | (with_reducible exact ih3 _)
      | (with_reducible exact ih4 _ _ _ _)
      | (with_reducible exact fluxionlaw01_product.mono _ _ _)
      | (with_reducible exact fluxionlaw01_same.mono _ _ _)
      | (with_reducible exact fluxionlaw01_tame.mono _ _ _)
      | (with_reducible exact nat_Parse.mono _ _)
      | (with_reducible exact nat_Text.mono _ _)
      | (with_reducible exact LeO.refl _)
      | (with_reducible exact LeO.none _)
      | (with_reducible refine LeO.ite ?_ ?_)
      | (with_reducible refine LeO.bind ?_ (fun _ => ?_))
      | exact ih0 _ _ _ _
      | exact ih1 _ _ _
      | exact ih2 _ _ _ _
      | exact ih3 _
      | exact ih4 _ _ _ _
      | exact fluxionlaw01_product.mono _ _ _
      | exact fluxionlaw01_same.mono _ _ _
      | exact fluxionlaw01_tame.mono _ _ _
      | exact nat_Parse.mono _ _
      | exact nat_Text.mono _ _
      | exact LeO.none _
      | refine LeO.ite ?_ ?_
      | refine LeO.bind ?_ (fun _ => ?_)
theorem fluxionlaw01_NatReads.mono : ∀ a0 a1 k, LeO (fluxionlaw01_NatReads.f k a0 a1) (fluxionlaw01_NatReads.f (k + 1) a0 a1) := by
  intro a0 a1 k
  obtain ⟨ih0, ih1, ih2, ih3, ih4⟩ := fluxionlaw01_NatReads.mono_l k
  unfold fluxionlaw01_NatReads.f
  repeat' first
      | (with_reducible exact ih0 _ _ _ _)
      | (with_reducible exact ih1 _ _ _)
      | (with_reducible exact ih2 _ _ _ _)
      | (with_reducible exact ih3 _)
      | (with_reducible exact ih4 _ _ _ _)
      | (with_reducible exact fluxionlaw01_product.mono _ _ _)
      | (with_reducible exact fluxionlaw01_same.mono _ _ _)
      | (with_reducible exact fluxionlaw01_tame.mono _ _ _)
      | (with_reducible exact nat_Parse.mono _ _)
      | (with_reducible exact nat_Text.mono _ _)
      | (with_reducible exact LeO.refl _)
      | (with_reducible exact LeO.none _)
      | (with_reducible refine LeO.ite ?_ ?_)
      | (with_reducible refine LeO.bind ?_ (fun _ => ?_))
      | exact ih0 _ _ _ _
      | exact ih1 _ _ _
      | exact ih2 _ _ _ _
      | exact ih3 _
      | exact ih4 _ _ _ _
      | exact fluxionlaw01_product.mono _ _ _
      | exact fluxionlaw01_same.mono _ _ _
      | exact fluxionlaw01_tame.mono _ _ _
      | exact nat_Parse.mono _ _
      | exact nat_Text.mono _ _
      | exact LeO.none _
      | refine LeO.ite ?_ ?_
      | refine LeO.bind ?_ (fun _ => ?_)
def fluxionlaw01_NatReads.Pure : Prop := ∀ (l0 : List Int) (a1 : ByteArray), l0.length ≤ maxLen → l0.length * 4 ≤ 140737488351232 → (∀ x ∈ l0, (Lit.int .u32 x).wf = true) → a1.size ≤ 140737488351232 → ∃ k, fluxionlaw01_NatReads.f k l0 a1 = some true

end Go.Proofs.Ytceglknbonfdeaa.PNat
