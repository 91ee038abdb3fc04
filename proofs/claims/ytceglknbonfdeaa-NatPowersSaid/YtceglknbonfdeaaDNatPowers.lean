-- Printed by a program for this claim (wip/myprint.sh, wip/patchprint.py, wip/regroup.py)
import Derived.Test.YtceglknbonfdeaaDB
namespace Go.Proofs.Ytceglknbonfdeaa.PNat
open Go.RowKit Go.Proofs.YtceglknbonfdeaaW.PrintWords Go.Proofs.YtceglknbonfdeaaW.PrintLast Go.Proofs.YtceglknbonfdeaaW.PrintMore
set_option linter.unusedVariables false
set_option linter.unusedSimpArgs false

def fluxionlaw01_NatPowers.j0 : Nat → Int → List Int → List Int → Int → Bool → Option (Bool)
  | 0, _, _, _, _, _ => none
  | k + 1, x1, x5, x6, x7, x33 => if x33 = true then ((fluxionlaw01_is.f k x6 x7 ([] : List Int) 2).bind fun t1043 => (if t1043 = true then ((fluxionlaw01_alive.f).bind fun t1044 => (some t1044)) else (some false))) else ((fluxionref01_Bits.f k x5).bind fun t1045 => (if (wrap64 (t1045 * x1)) > 16384 then ((fluxionlaw01_is.f k x6 x7 ([] : List Int) 8).bind fun t1046 => (if t1046 = true then ((fluxionlaw01_alive.f).bind fun t1047 => (some t1047)) else (some false))) else ((fluxionref01_Power.f k x5 x1).bind fun t1048 => ((fluxionlaw01_is.f k x6 x7 t1048 0).bind fun t1051 => (if t1051 = true then ((fluxionlaw01_alive.f).bind fun t1052 => (some t1052)) else (some false))))))
def fluxionlaw01_NatPowers.f (k : Nat) (l0 : List Int) (a1 : Int) : Option (Bool) := (fluxionlaw01_cut.f l0 516).bind fun t1033 => ((nat_Power.f k t1033 a1).bind fun bt1036 => ((fluxionref01_Valid.f t1033).bind fun t1040 => (if t1040 = 0 then (if a1 < 0 then (fluxionlaw01_NatPowers.j0 k a1 t1033 bt1036.1 bt1036.2 true) else (fluxionlaw01_NatPowers.j0 k a1 t1033 bt1036.1 bt1036.2 (decide (a1 > 1000)))) else ((fluxionlaw01_is.f k bt1036.1 bt1036.2 ([] : List Int) t1040).bind fun t1041 => (if t1041 = true then ((fluxionlaw01_alive.f).bind fun t1042 => (some t1042)) else (some false))))))
theorem fluxionlaw01_NatPowers.mono_l : ∀ k, (∀ y0 y1 y2 y3 y4, LeO (fluxionlaw01_NatPowers.j0 k y0 y1 y2 y3 y4) (fluxionlaw01_NatPowers.j0 (k + 1) y0 y1 y2 y3 y4))
  | 0 => fun _ _ _ _ _ r h => by simp [fluxionlaw01_NatPowers.j0] at h
  | k + 1 => by
    have ih0 := fluxionlaw01_NatPowers.mono_l k
    · intro y0 y1 y2 y3 y4
      unfold fluxionlaw01_NatPowers.j0
      repeat' first
      | (with_reducible exact ih0 _ _ _ _ _)
      | (with_reducible exact fluxionlaw01_is.mono _ _ _ _ _)
      | (with_reducible exact fluxionref01_Bits.mono _ _)
      | (with_reducible exact fluxionref01_Power.mono _ _ _)
      | (with_reducible exact nat_Power.mono _ _ _)
      | (with_reducible exact LeO.refl _)
      | (with_reducible exact LeO.none _)
      | (with_reducible refine LeO.ite ?_ ?_)
      | (with_reducible refine LeO.bind ?_ (fun _ => ?_))
      | exact ih0 _ _ _ _ _
      | exact fluxionlaw01_is.mono _ _ _ _ _
      | exact fluxionref01_Bits.mono _ _
      | exact fluxionref01_Power.mono _ _ _
      | exact nat_Power.mono _ _ _
      | exact LeO.none _
      | refine LeO.ite ?_ ?_
      | refine LeO.bind ?_ (fun _ => ?_)
theorem fluxionlaw01_NatPowers.mono : ∀ a0 a1 k, LeO (fluxionlaw01_NatPowers.f k a0 a1) (fluxionlaw01_NatPowers.f (k + 1) a0 a1) := by
  intro a0 a1 k
  have ih0 := fluxionlaw01_NatPowers.mono_l k
  unfold fluxionlaw01_NatPowers.f
  repeat' first
      | (with_reducible exact ih0 _ _ _ _ _)
      | (with_reducible exact fluxionlaw01_is.mono _ _ _ _ _)
      | (with_reducible exact fluxionref01_Bits.mono _ _)
      | (with_reducible exact fluxionref01_Power.mono _ _ _)
      | (with_reducible exact nat_Power.mono _ _ _)
      | (with_reducible exact LeO.refl _)
      | (with_reducible exact LeO.none _)
      | (with_reducible refine LeO.ite ?_ ?_)
      | (with_reducible refine LeO.bind ?_ (fun _ => ?_))
      | exact ih0 _ _ _ _ _
      | exact fluxionlaw01_is.mono _ _ _ _ _
      | exact fluxionref01_Bits.mono _ _
      | exact fluxionref01_Power.mono _ _ _
      | exact nat_Power.mono _ _ _
      | exact LeO.none _
      | refine LeO.ite ?_ ?_
      | refine LeO.bind ?_ (fun _ => ?_)
def fluxionlaw01_NatPowers.Pure : Prop := ∀ (l0 : List Int) (a1 : Int), l0.length ≤ maxLen → l0.length * 4 ≤ 140737488351232 → (∀ x ∈ l0, (Lit.int .u32 x).wf = true) → (Lit.int .i64 a1).wf = true → ∃ k, fluxionlaw01_NatPowers.f k l0 a1 = some true

end Go.Proofs.Ytceglknbonfdeaa.PNat
