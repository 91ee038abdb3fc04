-- Printed by a program for this claim (wip/myprint.sh, wip/patchprint.py, wip/regroup.py)
import Derived.Test.YtceglknbonfdeaaDB
namespace Go.Proofs.Ytceglknbonfdeaa.PNat
open Go.RowKit Go.Proofs.YtceglknbonfdeaaW.PrintWords Go.Proofs.YtceglknbonfdeaaW.PrintLast Go.Proofs.YtceglknbonfdeaaW.PrintMore
set_option linter.unusedVariables false
set_option linter.unusedSimpArgs false

mutual
def fluxionlaw01_NatBits.j0 : Nat → List Int → List Int → Int → Int → List Int → Bool → Option (Bool)
  | 0, _, _, _, _, _, _ => none
  | k + 1, x5, x6, x7, x9, x11, x71 => if x71 = true then none else ((nat_Bits.f k x11).bind fun bt780 => (if (x5.length : Int) = 0 then (fluxionlaw01_NatBits.j1 k x5 x6 x7 x9 bt780.1 bt780.2 true) else (fluxionlaw01_NatBits.j1 k x5 x6 x7 x9 bt780.1 bt780.2 ((x6.length : Int) == 0))))
def fluxionlaw01_NatBits.j1 : Nat → List Int → List Int → Int → Int → Int → Int → Bool → Option (Bool)
  | 0, _, _, _, _, _, _, _ => none
  | k + 1, x5, x6, x7, x9, x13, x14, x84 => if x84 = true then (if x14 = 0 then (if x13 = 0 then (if ((x7 == 0) == ((x5.length : Int) == 0)) = true then (if ((x9 == 0) == ((x6.length : Int) == 0)) = true then ((fluxionlaw01_alive.f).bind fun t782 => (some t782)) else none) else none) else none) else none) else (if x14 = 0 then (if x13 = (wrap64 (x7 + x9)) then (fluxionlaw01_NatBits.j2 k x5 x7 (decide (x7 < 1))) else (if x13 = (wrap64 ((wrap64 (x7 + x9)) - 1)) then (fluxionlaw01_NatBits.j2 k x5 x7 (decide (x7 < 1))) else none)) else none)
def fluxionlaw01_NatBits.j2 : Nat → List Int → Int → Bool → Option (Bool)
  | 0, _, _, _ => none
  | k + 1, x5, x7, x130 => if x130 = true then none else (if 0 ≤ (wrap64 ((wrap64 (Int.tdiv x7 32)) + 1)) then (if (wrap64 ((wrap64 (Int.tdiv x7 32)) + 1) : Int).toNat ≤ 70368744177664 then ((some (List.replicate (wrap64 ((wrap64 (Int.tdiv x7 32)) + 1) : Int).toNat 0 : List Int)).bind fun y783 => (if 0 ≤ (wrap64 ((wrap64 (Int.tdiv (wrap64 (x7 - 1)) 32)) + 1)) then (if (wrap64 ((wrap64 (Int.tdiv (wrap64 (x7 - 1)) 32)) + 1) : Int).toNat ≤ 70368744177664 then ((some (List.replicate (wrap64 ((wrap64 (Int.tdiv (wrap64 (x7 - 1)) 32)) + 1) : Int).toNat 0 : List Int)).bind fun y786 => (if 0 ≤ (Int.tmod x7 32) then (if 0 ≤ (wrap64 (Int.tdiv x7 32)) then (if (wrap64 (Int.tdiv x7 32)) < (y783.length : Int) then (if 0 ≤ (Int.tmod (wrap64 (x7 - 1)) 32) then (if 0 ≤ (wrap64 (Int.tdiv (wrap64 (x7 - 1)) 32)) then (if (wrap64 (Int.tdiv (wrap64 (x7 - 1)) 32)) < (y786.length : Int) then ((nat_Compare.f k x5 (y783.set ((wrap64 (Int.tdiv x7 32)) : Int).toNat (shl .u32 1 (Int.tmod x7 32)))).bind fun bt791 => ((nat_Compare.f k (y786.set ((wrap64 (Int.tdiv (wrap64 (x7 - 1)) 32)) : Int).toNat (shl .u32 1 (Int.tmod (wrap64 (x7 - 1)) 32))) x5).bind fun bt793 => (if bt791.2 = 0 then (if bt793.2 = 0 then (if bt791.1 = (-1) then (if bt793.1 ≤ 0 then ((fluxionlaw01_alive.f).bind fun t795 => (some t795)) else none) else none) else none) else none))) else (none)) else (none)) else (none)) else (none)) else (none)) else (none))) else (none)) else (none))) else (none)) else (none))
end
def fluxionlaw01_NatBits.f (k : Nat) (l0 : List Int) (l1 : List Int) : Option (Bool) := (fluxionlaw01_tame.f k l0 100).bind fun t766 => ((fluxionlaw01_tame.f k l1 100).bind fun t769 => ((nat_Bits.f k t766).bind fun bt772 => ((nat_Bits.f k t769).bind fun bt774 => ((fluxionlaw01_product.f k t766 t769).bind fun bt776 => (if bt772.2 = 0 then (if bt774.2 = 0 then (if bt776.2 = true then (if (bt776.1.length : Int) > 200 then none else (if bt772.1 < 0 then none else (if bt772.1 > 3200 then none else (if bt774.1 < 0 then none else (fluxionlaw01_NatBits.j0 k t766 t769 bt772.1 bt774.1 bt776.1 (decide (bt774.1 > 3200))))))) else none) else none) else none)))))
theorem fluxionlaw01_NatBits.mono_l : ∀ k, (∀ y0 y1 y2 y3 y4 y5, LeO (fluxionlaw01_NatBits.j0 k y0 y1 y2 y3 y4 y5) (fluxionlaw01_NatBits.j0 (k + 1) y0 y1 y2 y3 y4 y5)) ∧ (∀ y0 y1 y2 y3 y4 y5 y6, LeO (fluxionlaw01_NatBits.j1 k y0 y1 y2 y3 y4 y5 y6) (fluxionlaw01_NatBits.j1 (k + 1) y0 y1 y2 y3 y4 y5 y6)) ∧ (∀ y0 y1 y2, LeO (fluxionlaw01_NatBits.j2 k y0 y1 y2) (fluxionlaw01_NatBits.j2 (k + 1) y0 y1 y2))
  | 0 => ⟨fun _ _ _ _ _ _ r h => by simp [fluxionlaw01_NatBits.j0] at h, fun _ _ _ _ _ _ _ r h => by simp [fluxionlaw01_NatBits.j1] at h, fun _ _ _ r h => by simp [fluxionlaw01_NatBits.j2] at h⟩
  | k + 1 => by
    obtain ⟨ih0, ih1, ih2⟩ := fluxionlaw01_NatBits.mono_l k
    refine ⟨?_, ?_, ?_⟩
    · intro y0 y1 y2 y3 y4 y5
      unfold fluxionlaw01_NatBits.j0
      repeat' first
      | (with_reducible exact ih0 _ _ _ _ _ _)
      | (with_reducible exact ih1 _ _ _ _ _ _ _)
      | (with_reducible exact ih2 _ _ _)
      | (with_reducible exact fluxionlaw01_product.mono _ _ _)
      | (with_reducible exact fluxionlaw01_tame.mono _ _ _)
      | (with_reducible exact nat_Bits.mono _ _)
      | (with_reducible exact nat_Compare.mono _ _ _)
      | (with_reducible exact LeO.refl _)
      | (with_reducible exact LeO.none _)
      | (with_reducible refine LeO.ite ?_ ?_)
      | (with_reducible refine LeO.bind ?_ (fun _ => ?_))
      | exact ih0 _ _ _ _ _ _
      | exact ih1 _ _ _ _ _ _ _
      | exact ih2 _ _ _
      | exact fluxionlaw01_product.mono _ _ _
      | exact fluxionlaw01_tame.mono _ _ _
      | exact nat_Bits.mono _ _
      | exact nat_Compare.mono _ _ _
      | exact LeO.none _
      | refine LeO.ite ?_ ?_
      | refine LeO.bind ?_ (fun _ => ?_)
    · intro y0 y1 y2 y3 y4 y5 y6
      unfold fluxionlaw01_NatBits.j1
      repeat' first
      | (with_reducible exact ih0 _ _ _ _ _ _)
      | (with_reducible exact ih1 _ _ _ _ _ _ _)
      | (with_reducible exact ih2 _ _ _)
      | (with_reducible exact fluxionlaw01_product.mono _ _ _)
      | (with_reducible exact fluxionlaw01_tame.mono _ _ _)
      | (with_reducible exact nat_Bits.mono _ _)
      | (with_reducible exact nat_Compare.mono _ _ _)
      | (with_reducible exact LeO.refl _)
      | (with_reducible exact LeO.none _)
      | (with_reducible refine LeO.ite ?_ ?_)
      | (with_reducible refine LeO.bind ?_ (fun _ => ?_))
      | exact ih0 _ _ _ _ _ _
      | exact ih1 _ _ _ _ _ _ _
      | exact ih2 _ _ _
      | exact fluxionlaw01_product.mono _ _ _
      | exact fluxionlaw01_tame.mono _ _ _
      | exact nat_Bits.mono _ _
      | exact nat_Compare.mono _ _ _
      | exact LeO.none _
      | refine LeO.ite ?_ ?_
      | refine LeO.bind ?_ (fun _ => ?_)
    · intro y0 y1 y2
      unfold fluxionlaw01_NatBits.j2
      repeat' first
      | (with_reducible exact ih0 _ _ _ _ _ _)
      | (with_reducible exact ih1 _ _ _ _ _ _ _)
      | (with_reducible exact ih2 _ _ _)
      | (with_reducible exact fluxionlaw01_product.mono _ _ _)
      | (with_reducible exact fluxionlaw01_tame.mono _ _ _)
      | (with_reducible exact nat_Bits.mono _ _)
      | (with_reducible exact nat_Compare.mono _ _ _)
      | (with_reducible exact LeO.refl _)
      | (with_reducible exact LeO.none _)
      | (with_reducible refine LeO.ite ?_ ?_)
      | (with_reducible refine LeO.bind ?_ (fun _ => ?_))
      | exact ih0 _ _ _ _ _ _
      | exact ih1 _ _ _ _ _ _ _
      | exact ih2 _ _ _
      | exact fluxionlaw01_product.mono _ _ _
      | exact fluxionlaw01_tame.mono _ _ _
      | exact nat_Bits.mono _ _
      | exact nat_Compare.mono _ _ _
      | exact LeO.none _
      | refine LeO.ite ?_ ?_
      | refine LeO.bind ?_ (fun _ => ?_)
theorem fluxionlaw01_NatBits.mono : ∀ a0 a1 k, LeO (fluxionlaw01_NatBits.f k a0 a1) (fluxionlaw01_NatBits.f (k + 1) a0 a1) := by
  intro a0 a1 k
  obtain ⟨ih0, ih1, ih2⟩ := fluxionlaw01_NatBits.mono_l k
  unfold fluxionlaw01_NatBits.f
  repeat' first
      | (with_reducible exact ih0 _ _ _ _ _ _)
      | (with_reducible exact ih1 _ _ _ _ _ _ _)
      | (with_reducible exact ih2 _ _ _)
      | (with_reducible exact fluxionlaw01_product.mono _ _ _)
      | (with_reducible exact fluxionlaw01_tame.mono _ _ _)
      | (with_reducible exact nat_Bits.mono _ _)
      | (with_reducible exact nat_Compare.mono _ _ _)
      | (with_reducible exact LeO.refl _)
      | (with_reducible exact LeO.none _)
      | (with_reducible refine LeO.ite ?_ ?_)
      | (with_reducible refine LeO.bind ?_ (fun _ => ?_))
      | exact ih0 _ _ _ _ _ _
      | exact ih1 _ _ _ _ _ _ _
      | exact ih2 _ _ _
      | exact fluxionlaw01_product.mono _ _ _
      | exact fluxionlaw01_tame.mono _ _ _
      | exact nat_Bits.mono _ _
      | exact nat_Compare.mono _ _ _
      | exact LeO.none _
      | refine LeO.ite ?_ ?_
      | refine LeO.bind ?_ (fun _ => ?_)
def fluxionlaw01_NatBits.Pure : Prop := ∀ (l0 : List Int) (l1 : List Int), l0.length ≤ maxLen → l0.length * 4 ≤ 140737488351232 → (∀ x ∈ l0, (Lit.int .u32 x).wf = true) → l1.length ≤ maxLen → l1.length * 4 ≤ 140737488351232 → (∀ x ∈ l1, (Lit.int .u32 x).wf = true) → ∃ k, fluxionlaw01_NatBits.f k l0 l1 = some true

end Go.Proofs.Ytceglknbonfdeaa.PNat
