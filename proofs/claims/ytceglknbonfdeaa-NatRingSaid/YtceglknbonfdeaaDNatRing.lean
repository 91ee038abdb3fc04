-- Printed by a program for this claim (wip/myprint.sh, wip/patchprint.py, wip/regroup.py)
import Derived.Test.YtceglknbonfdeaaDB
namespace Go.Proofs.Ytceglknbonfdeaa.PNat
open Go.RowKit Go.Proofs.YtceglknbonfdeaaW.PrintWords Go.Proofs.YtceglknbonfdeaaW.PrintLast Go.Proofs.YtceglknbonfdeaaW.PrintMore
set_option linter.unusedVariables false
set_option linter.unusedSimpArgs false

mutual
def fluxionlaw01_NatRing.j0 : Nat → List Int → List Int → List Int → List Int → List Int → List Int → List Int → Bool → Option (Bool)
  | 0, _, _, _, _, _, _, _, _ => none
  | k + 1, x7, x8, x9, x10, x14, x16, x20, x129 => if x129 = true then none else ((fluxionlaw01_sum.f k x10 x9).bind fun bt957 => ((fluxionlaw01_sum.f k x7 x14).bind fun bt961 => ((fluxionlaw01_product.f k x16 x9).bind fun bt965 => ((fluxionlaw01_product.f k x7 x20).bind fun bt969 => ((fluxionlaw01_product.f k x7 x14).bind fun bt973 => ((fluxionlaw01_product.f k x7 x9).bind fun bt977 => (if bt957.2 = true then (if bt961.2 = true then (if bt965.2 = true then (if bt969.2 = true then (if bt973.2 = true then (if bt977.2 = true then ((fluxionlaw01_same.f k bt957.1 bt961.1).bind fun t981 => (if t981 = true then ((fluxionlaw01_same.f k bt965.1 bt969.1).bind fun t982 => (if t982 = true then (fluxionlaw01_NatRing.j1 k x7 x8 x10 x16 bt973.1 bt977.1 (decide ((bt977.1.length : Int) > 200))) else none)) else none)) else none) else none) else none) else none) else none) else none)))))))
def fluxionlaw01_NatRing.j1 : Nat → List Int → List Int → List Int → List Int → List Int → List Int → Bool → Option (Bool)
  | 0, _, _, _, _, _, _, _ => none
  | k + 1, x7, x8, x10, x16, x26, x27, x204 => if x204 = true then none else ((fluxionlaw01_sum.f k x16 x27).bind fun bt983 => ((nat_Sub.f k x10 x8).bind fun bt987 => ((fluxionlaw01_sum.f k x7 ([] : List Int)).bind fun bt991 => ((fluxionlaw01_product.f k x7 (([1] : List Int))).bind fun bt998 => ((fluxionlaw01_product.f k ([] : List Int) x7).bind fun bt1002 => (if bt983.2 = true then (if bt991.2 = true then (if bt998.2 = true then (if bt1002.2 = true then (if bt987.2 = 0 then ((fluxionlaw01_same.f k x26 bt983.1).bind fun t1006 => (if t1006 = true then ((fluxionlaw01_same.f k bt987.1 x7).bind fun t1007 => (if t1007 = true then ((fluxionlaw01_same.f k bt991.1 x7).bind fun t1008 => (if t1008 = true then ((fluxionlaw01_same.f k bt998.1 x7).bind fun t1009 => (if t1009 = true then (if (bt1002.1.length : Int) = 0 then ((fluxionlaw01_alive.f).bind fun t1010 => (some t1010)) else none) else none)) else none)) else none)) else none)) else none) else none) else none) else none) else none))))))
end
def fluxionlaw01_NatRing.f (k : Nat) (l0 : List Int) (l1 : List Int) (l2 : List Int) : Option (Bool) := (fluxionlaw01_tame.f k l0 100).bind fun t922 => ((fluxionlaw01_tame.f k l1 100).bind fun t925 => ((fluxionlaw01_tame.f k l2 100).bind fun t928 => ((fluxionlaw01_sum.f k t922 t925).bind fun bt931 => ((fluxionlaw01_sum.f k t925 t922).bind fun bt935 => ((fluxionlaw01_sum.f k t925 t928).bind fun bt939 => ((fluxionlaw01_product.f k t922 t925).bind fun bt943 => ((fluxionlaw01_product.f k t925 t922).bind fun bt947 => ((fluxionlaw01_product.f k t925 t928).bind fun bt951 => (if bt931.2 = true then (if bt935.2 = true then (if bt939.2 = true then (if bt943.2 = true then (if bt947.2 = true then (if bt951.2 = true then ((fluxionlaw01_same.f k bt931.1 bt935.1).bind fun t955 => (if t955 = true then ((fluxionlaw01_same.f k bt943.1 bt947.1).bind fun t956 => (if t956 = true then (if (bt931.1.length : Int) > 101 then none else (if (bt939.1.length : Int) > 101 then none else (if (bt943.1.length : Int) > 200 then none else (fluxionlaw01_NatRing.j0 k t922 t925 t928 bt931.1 bt939.1 bt943.1 bt951.1 (decide ((bt951.1.length : Int) > 200)))))) else none)) else none)) else none) else none) else none) else none) else none) else none)))))))))
theorem fluxionlaw01_NatRing.mono_l : ∀ k, (∀ y0 y1 y2 y3 y4 y5 y6 y7, LeO (fluxionlaw01_NatRing.j0 k y0 y1 y2 y3 y4 y5 y6 y7) (fluxionlaw01_NatRing.j0 (k + 1) y0 y1 y2 y3 y4 y5 y6 y7)) ∧ (∀ y0 y1 y2 y3 y4 y5 y6, LeO (fluxionlaw01_NatRing.j1 k y0 y1 y2 y3 y4 y5 y6) (fluxionlaw01_NatRing.j1 (k + 1) y0 y1 y2 y3 y4 y5 y6))
  | 0 => ⟨fun _ _ _ _ _ _ _ _ r h => by simp [fluxionlaw01_NatRing.j0] at h, fun _ _ _ _ _ _ _ r h => by simp [fluxionlaw01_NatRing.j1] at h⟩
  | k + 1 => by
    obtain ⟨ih0, ih1⟩ := fluxionlaw01_NatRing.mono_l k
    refine ⟨?_, ?_⟩
    · intro y0 y1 y2 y3 y4 y5 y6 y7
      unfold fluxionlaw01_NatRing.j0
      repeat' first
      | (with_reducible exact ih0 _ _ _ _ _ _ _ _)
      | (with_reducible exact ih1 _ _ _ _ _ _ _)
      | (with_reducible exact fluxionlaw01_product.mono _ _ _)
      | (with_reducible exact fluxionlaw01_same.mono _ _ _)
      | (with_reducible exact fluxionlaw01_sum.mono _ _ _)
      | (with_reducible exact fluxionlaw01_tame.mono _ _ _)
      | (with_reducible exact nat_Sub.mono _ _ _)
      | (with_reducible exact LeO.refl _)
      | (with_reducible exact LeO.none _)
      | (with_reducible refine LeO.ite ?_ ?_)
      | (with_reducible refine LeO.bind ?_ (fun _ => ?_))
      | exact ih0 _ _ _ _ _ _ _ _
      | exact ih1 _ _ _ _ _ _ _
      | exact fluxionlaw01_product.mono _ _ _
      | exact fluxionlaw01_same.mono _ _ _
      | exact fluxionlaw01_sum.mono _ _ _
      | exact fluxionlaw01_tame.mono _ _ _
      | exact nat_Sub.mono _ _ _
      | exact LeO.none _
      | refine LeO.ite ?_ ?_
      | refine LeO.bind ?_ (fun _ => ?_)
    · intro y0 y1 y2 y3 y4 y5 y6
      unfold fluxionlaw01_NatRing.j1
      repeat' first
      | (with_reducible exact ih0 _ _ _ _ _ _ _ _)
      | (with_reducible exact ih1 _ _ _ _ _ _ _)
      | (with_reducible exact fluxionlaw01_product.mono _ _ _)
      | (with_reducible exact fluxionlaw01_same.mono _ _ _)
      | (with_reducible exact fluxionlaw01_sum.mono _ _ _)
      | (with_reducible exact fluxionlaw01_tame.mono _ _ _)
      | (with_reducible exact nat_Sub.mono _ _ _)
      | (with_reducible exact LeO.refl _)
      | (with_reducible exact LeO.none _)
      | (with_reducible refine LeO.ite ?_ ?_)
      | (with_reducible refine LeO.bind ?_ (fun _ => ?_))
      | exact ih0 _ _ _ _ _ _ _ _
      | exact ih1 _ _ _ _ _ _ _
      | exact fluxionlaw01_product.mono _ _ _
      | exact fluxionlaw01_same.mono _ _ _
      | exact fluxionlaw01_sum.mono _ _ _
      | exact fluxionlaw01_tame.mono _ _ _
      | exact nat_Sub.mono _ _ _
      | exact LeO.none _
      | refine LeO.ite ?_ ?_
      | refine LeO.bind ?_ (fun _ => ?_)
theorem fluxionlaw01_NatRing.mono : ∀ a0 a1 a2 k, LeO (fluxionlaw01_NatRing.f k a0 a1 a2) (fluxionlaw01_NatRing.f (k + 1) a0 a1 a2) := by
  intro a0 a1 a2 k
  obtain ⟨ih0, ih1⟩ := fluxionlaw01_NatRing.mono_l k
  unfold fluxionlaw01_NatRing.f
  repeat' first
      | (with_reducible exact ih0 _ _ _ _ _ _ _ _)
      | (with_reducible exact ih1 _ _ _ _ _ _ _)
      | (with_reducible exact fluxionlaw01_product.mono _ _ _)
      | (with_reducible exact fluxionlaw01_same.mono _ _ _)
      | (with_reducible exact fluxionlaw01_sum.mono _ _ _)
      | (with_reducible exact fluxionlaw01_tame.mono _ _ _)
      | (with_reducible exact nat_Sub.mono _ _ _)
      | (with_reducible exact LeO.refl _)
      | (with_reducible exact LeO.none _)
      | (with_reducible refine LeO.ite ?_ ?_)
      | (with_reducible refine LeO.bind ?_ (fun _ => ?_))
      | exact ih0 _ _ _ _ _ _ _ _
      | exact ih1 _ _ _ _ _ _ _
      | exact fluxionlaw01_product.mono _ _ _
      | exact fluxionlaw01_same.mono _ _ _
      | exact fluxionlaw01_sum.mono _ _ _
      | exact fluxionlaw01_tame.mono _ _ _
      | exact nat_Sub.mono _ _ _
      | exact LeO.none _
      | refine LeO.ite ?_ ?_
      | refine LeO.bind ?_ (fun _ => ?_)
def fluxionlaw01_NatRing.Pure : Prop := ∀ (l0 : List Int) (l1 : List Int) (l2 : List Int), l0.length ≤ maxLen → l0.length * 4 ≤ 140737488351232 → (∀ x ∈ l0, (Lit.int .u32 x).wf = true) → l1.length ≤ maxLen → l1.length * 4 ≤ 140737488351232 → (∀ x ∈ l1, (Lit.int .u32 x).wf = true) → l2.length ≤ maxLen → l2.length * 4 ≤ 140737488351232 → (∀ x ∈ l2, (Lit.int .u32 x).wf = true) → ∃ k, fluxionlaw01_NatRing.f k l0 l1 l2 = some true

end Go.Proofs.Ytceglknbonfdeaa.PNat
