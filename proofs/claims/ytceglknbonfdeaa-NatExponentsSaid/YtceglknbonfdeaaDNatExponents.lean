-- Printed by a program for this claim (wip/myprint.sh, wip/patchprint.py, wip/regroup.py)
import Derived.Test.YtceglknbonfdeaaDB
namespace Go.Proofs.Ytceglknbonfdeaa.PNat
open Go.RowKit Go.Proofs.YtceglknbonfdeaaW.PrintWords Go.Proofs.YtceglknbonfdeaaW.PrintLast Go.Proofs.YtceglknbonfdeaaW.PrintMore
set_option linter.unusedVariables false
set_option linter.unusedSimpArgs false

def fluxionlaw01_NatExponents.j0 : Nat → List Int → List Int → List Int → Bool → Option (Bool)
  | 0, _, _, _, _ => none
  | k + 1, x10, x12, x14, x65 => if x65 = true then (some false) else ((fluxionlaw01_product.f k x10 x12).bind fun bt1068 => (if bt1068.2 = true then ((fluxionlaw01_same.f k bt1068.1 x14).bind fun t1072 => (if t1072 = true then ((fluxionlaw01_alive.f).bind fun t1073 => (some t1073)) else (some false))) else (some false)))
def fluxionlaw01_NatExponents.f (k : Nat) (l0 : List Int) (a1 : Int) (a2 : Int) : Option (Bool) := (fluxionlaw01_tame.f k l0 4).bind fun t1053 => ((nat_Power.f k t1053 (wrap64 (Int.tmod a1 31))).bind fun bt1056 => ((nat_Power.f k t1053 (wrap64 (Int.tmod a2 31))).bind fun bt1060 => ((nat_Power.f k t1053 (wrap64 ((wrap64 (Int.tmod a1 31)) + (wrap64 (Int.tmod a2 31))))).bind fun bt1064 => (if bt1056.2 = 0 then (if bt1060.2 = 0 then (if bt1064.2 = 0 then (if (bt1056.1.length : Int) > 124 then (fluxionlaw01_NatExponents.j0 k bt1056.1 bt1060.1 bt1064.1 true) else (fluxionlaw01_NatExponents.j0 k bt1056.1 bt1060.1 bt1064.1 (decide ((bt1060.1.length : Int) > 124)))) else (fluxionlaw01_NatExponents.j0 k bt1056.1 bt1060.1 bt1064.1 true)) else (fluxionlaw01_NatExponents.j0 k bt1056.1 bt1060.1 bt1064.1 true)) else (fluxionlaw01_NatExponents.j0 k bt1056.1 bt1060.1 bt1064.1 true)))))
theorem fluxionlaw01_NatExponents.mono_l : ∀ k, (∀ y0 y1 y2 y3, LeO (fluxionlaw01_NatExponents.j0 k y0 y1 y2 y3) (fluxionlaw01_NatExponents.j0 (k + 1) y0 y1 y2 y3))
  | 0 => fun _ _ _ _ r h => by simp [fluxionlaw01_NatExponents.j0] at h
  | k + 1 => by
    have ih0 := fluxionlaw01_NatExponents.mono_l k
    · intro y0 y1 y2 y3
      unfold fluxionlaw01_NatExponents.j0
      repeat' first
      | (with_reducible exact ih0 _ _ _ _)
      | (with_reducible exact fluxionlaw01_product.mono _ _ _)
      | (with_reducible exact fluxionlaw01_same.mono _ _ _)
      | (with_reducible exact fluxionlaw01_tame.mono _ _ _)
      | (with_reducible exact nat_Power.mono _ _ _)
      | (with_reducible exact LeO.refl _)
      | (with_reducible exact LeO.none _)
      | (with_reducible refine LeO.ite ?_ ?_)
      | (with_reducible refine LeO.bind ?_ (fun _ => ?_))
      | exact ih0 _ _ _ _
      | exact fluxionlaw01_product.mono _ _ _
      | exact fluxionlaw01_same.mono _ _ _
      | exact fluxionlaw01_tame.mono _ _ _
      | exact nat_Power.mono _ _ _
      | exact LeO.none _
      | refine LeO.ite ?_ ?_
      | refine LeO.bind ?_ (fun _ => ?_)
theorem fluxionlaw01_NatExponents.mono : ∀ a0 a1 a2 k, LeO (fluxionlaw01_NatExponents.f k a0 a1 a2) (fluxionlaw01_NatExponents.f (k + 1) a0 a1 a2) := by
  intro a0 a1 a2 k
  have ih0 := fluxionlaw01_NatExponents.mono_l k
  unfold fluxionlaw01_NatExponents.f
  repeat' first
      | (with_reducible exact ih0 _ _ _ _)
      | (with_reducible exact fluxionlaw01_product.mono _ _ _)
      | (with_reducible exact fluxionlaw01_same.mono _ _ _)
      | (with_reducible exact fluxionlaw01_tame.mono _ _ _)
      | (with_reducible exact nat_Power.mono _ _ _)
      | (with_reducible exact LeO.refl _)
      | (with_reducible exact LeO.none _)
      | (with_reducible refine LeO.ite ?_ ?_)
      | (with_reducible refine LeO.bind ?_ (fun _ => ?_))
      | exact ih0 _ _ _ _
      | exact fluxionlaw01_product.mono _ _ _
      | exact fluxionlaw01_same.mono _ _ _
      | exact fluxionlaw01_tame.mono _ _ _
      | exact nat_Power.mono _ _ _
      | exact LeO.none _
      | refine LeO.ite ?_ ?_
      | refine LeO.bind ?_ (fun _ => ?_)
def fluxionlaw01_NatExponents.Pure : Prop := ∀ (l0 : List Int) (a1 : Int) (a2 : Int), l0.length ≤ maxLen → l0.length * 4 ≤ 140737488351232 → (∀ x ∈ l0, (Lit.int .u32 x).wf = true) → (Lit.int .u8 a1).wf = true → (Lit.int .u8 a2).wf = true → ∃ k, fluxionlaw01_NatExponents.f k l0 a1 a2 = some true

end Go.Proofs.Ytceglknbonfdeaa.PNat
