-- Printed by a program for this claim (wip/myprint.sh, wip/patchprint.py, wip/regroup.py)
import Derived.Test.YtceglknbonfdeaaDA
namespace Go.Proofs.Ytceglknbonfdeaa.PNat
open Go.RowKit Go.Proofs.YtceglknbonfdeaaW.PrintWords Go.Proofs.YtceglknbonfdeaaW.PrintLast Go.Proofs.YtceglknbonfdeaaW.PrintMore
set_option linter.unusedVariables false
set_option linter.unusedSimpArgs false

def fluxionref01_Bits.l0 : Nat → Int → Int → Option (Int)
  | 0, _, _ => none
  | k + 1, x3, x4 => if x4 > 0 then (fluxionref01_Bits.l0 k (wrap64 (x3 + 1)) ((Int.tdiv x4 2) % 4294967296)) else (some x3)
def fluxionref01_Bits.f (k : Nat) (l0 : List Int) : Option (Int) := if (l0.length : Int) = 0 then (some 0) else (if 0 ≤ (wrap64 ((l0.length : Int) - 1)) then (if (wrap64 ((l0.length : Int) - 1)) < (l0.length : Int) then (fluxionref01_Bits.l0 k (wrap64 (32 * (wrap64 ((l0.length : Int) - 1)))) (rd l0 (wrap64 ((l0.length : Int) - 1)))) else (none)) else (none))
theorem fluxionref01_Bits.mono_l : ∀ k, (∀ y0 y1, LeO (fluxionref01_Bits.l0 k y0 y1) (fluxionref01_Bits.l0 (k + 1) y0 y1))
  | 0 => fun _ _ r h => by simp [fluxionref01_Bits.l0] at h
  | k + 1 => by
    have ih0 := fluxionref01_Bits.mono_l k
    · intro y0 y1
      unfold fluxionref01_Bits.l0
      repeat' first
      | (with_reducible exact ih0 _ _)
      | (with_reducible exact LeO.refl _)
      | (with_reducible exact LeO.none _)
      | (with_reducible refine LeO.ite ?_ ?_)
      | (with_reducible refine LeO.bind ?_ (fun _ => ?_))
      | exact ih0 _ _
      | exact LeO.none _
      | refine LeO.ite ?_ ?_
      | refine LeO.bind ?_ (fun _ => ?_)
theorem fluxionref01_Bits.mono : ∀ a0 k, LeO (fluxionref01_Bits.f k a0) (fluxionref01_Bits.f (k + 1) a0) := by
  intro a0 k
  have ih0 := fluxionref01_Bits.mono_l k
  unfold fluxionref01_Bits.f
  repeat' first
      | (with_reducible exact ih0 _ _)
      | (with_reducible exact LeO.refl _)
      | (with_reducible exact LeO.none _)
      | (with_reducible refine LeO.ite ?_ ?_)
      | (with_reducible refine LeO.bind ?_ (fun _ => ?_))
      | exact ih0 _ _
      | exact LeO.none _
      | refine LeO.ite ?_ ?_
      | refine LeO.bind ?_ (fun _ => ?_)
def fluxionref01_Compare.l0 : Nat → List Int → List Int → Int → Option (Int)
  | 0, _, _, _ => none
  | k + 1, x0, x1, x5 => if x5 ≥ 0 then (if 0 ≤ x5 then (if x5 < (x0.length : Int) then (if x5 < (x1.length : Int) then (if (rd x0 x5) < (rd x1 x5) then (some (-1)) else (if (rd x0 x5) > (rd x1 x5) then (some 1) else (fluxionref01_Compare.l0 k x0 x1 (wrap64 (x5 - 1))))) else (none)) else (none)) else (none)) else (some 0)
def fluxionref01_Compare.f (k : Nat) (l0 : List Int) (l1 : List Int) : Option (Int) := if (l0.length : Int) = (l1.length : Int) then (fluxionref01_Compare.l0 k l0 l1 (wrap64 ((l0.length : Int) - 1))) else (if (l0.length : Int) < (l1.length : Int) then (some (-1)) else (some 1))
theorem fluxionref01_Compare.mono_l : ∀ k, (∀ y0 y1 y2, LeO (fluxionref01_Compare.l0 k y0 y1 y2) (fluxionref01_Compare.l0 (k + 1) y0 y1 y2))
  | 0 => fun _ _ _ r h => by simp [fluxionref01_Compare.l0] at h
  | k + 1 => by
    have ih0 := fluxionref01_Compare.mono_l k
    · intro y0 y1 y2
      unfold fluxionref01_Compare.l0
      repeat' first
      | (with_reducible exact ih0 _ _ _)
      | (with_reducible exact LeO.refl _)
      | (with_reducible exact LeO.none _)
      | (with_reducible refine LeO.ite ?_ ?_)
      | (with_reducible refine LeO.bind ?_ (fun _ => ?_))
      | exact ih0 _ _ _
      | exact LeO.none _
      | refine LeO.ite ?_ ?_
      | refine LeO.bind ?_ (fun _ => ?_)
theorem fluxionref01_Compare.mono : ∀ a0 a1 k, LeO (fluxionref01_Compare.f k a0 a1) (fluxionref01_Compare.f (k + 1) a0 a1) := by
  intro a0 a1 k
  have ih0 := fluxionref01_Compare.mono_l k
  unfold fluxionref01_Compare.f
  repeat' first
      | (with_reducible exact ih0 _ _ _)
      | (with_reducible exact LeO.refl _)
      | (with_reducible exact LeO.none _)
      | (with_reducible refine LeO.ite ?_ ?_)
      | (with_reducible refine LeO.bind ?_ (fun _ => ?_))
      | exact ih0 _ _ _
      | exact LeO.none _
      | refine LeO.ite ?_ ?_
      | refine LeO.bind ?_ (fun _ => ?_)
def fluxionref01_short.l0 : Nat → List Int → Int → Option (List Int)
  | 0, _, _ => none
  | k + 1, x0, x3 => if x3 > 0 then (if 0 ≤ (wrap64 (x3 - 1)) then (if (wrap64 (x3 - 1)) < (x0.length : Int) then (if (rd x0 (wrap64 (x3 - 1))) = 0 then (fluxionref01_short.l0 k x0 (wrap64 (x3 - 1))) else (if 0 ≤ x3 then (if x3 ≤ (x0.length : Int) then (some (x0.take (x3 : Int).toNat)) else (none)) else (none))) else (none)) else (none)) else (if 0 ≤ x3 then (if x3 ≤ (x0.length : Int) then (some (x0.take (x3 : Int).toNat)) else (none)) else (none))
def fluxionref01_short.f (k : Nat) (l0 : List Int) : Option (List Int) := fluxionref01_short.l0 k l0 (l0.length : Int)
theorem fluxionref01_short.mono_l : ∀ k, (∀ y0 y1, LeO (fluxionref01_short.l0 k y0 y1) (fluxionref01_short.l0 (k + 1) y0 y1))
  | 0 => fun _ _ r h => by simp [fluxionref01_short.l0] at h
  | k + 1 => by
    have ih0 := fluxionref01_short.mono_l k
    · intro y0 y1
      unfold fluxionref01_short.l0
      repeat' first
      | (with_reducible exact ih0 _ _)
      | (with_reducible exact LeO.refl _)
      | (with_reducible exact LeO.none _)
      | (with_reducible refine LeO.ite ?_ ?_)
      | (with_reducible refine LeO.bind ?_ (fun _ => ?_))
      | exact ih0 _ _
      | exact LeO.none _
      | refine LeO.ite ?_ ?_
      | refine LeO.bind ?_ (fun _ => ?_)
theorem fluxionref01_short.mono : ∀ a0 k, LeO (fluxionref01_short.f k a0) (fluxionref01_short.f (k + 1) a0) := by
  intro a0 k
  have ih0 := fluxionref01_short.mono_l k
  unfold fluxionref01_short.f
  repeat' first
      | (with_reducible exact ih0 _ _)
      | (with_reducible exact LeO.refl _)
      | (with_reducible exact LeO.none _)
      | (with_reducible refine LeO.ite ?_ ?_)
      | (with_reducible refine LeO.bind ?_ (fun _ => ?_))
      | exact ih0 _ _
      | exact LeO.none _
      | refine LeO.ite ?_ ?_
      | refine LeO.bind ?_ (fun _ => ?_)
def fluxionref01_digit.f (l0 : List Int) (a1 : Int) : Option (Int) := if a1 < (l0.length : Int) then (if 0 ≤ a1 then (some (IntKind.u64.wrap (rd l0 a1))) else (none)) else (some 0)
def fluxionref01_Sub.l0 : Nat → List Int → List Int → List Int → Int → Int → Option (List Int)
  | 0, _, _, _, _, _ => none
  | k + 1, x0, x1, x5, x6, x7 => if x7 < (x0.length : Int) then (if 0 ≤ x7 then ((fluxionref01_digit.f x1 x7).bind fun t339 => (if x7 < (x5.length : Int) then (fluxionref01_Sub.l0 k x0 x1 (x5.set (x7 : Int).toNat ((IntKind.u64.wrap ((IntKind.u64.wrap ((IntKind.u64.wrap ((IntKind.u64.wrap (rd x0 x7)) + 4294967296)) - t339)) - x6)) % 4294967296)) (IntKind.u64.wrap (1 - ((IntKind.u64.wrap ((IntKind.u64.wrap ((IntKind.u64.wrap ((IntKind.u64.wrap (rd x0 x7)) + 4294967296)) - t339)) - x6)) / 4294967296))) (wrap64 (x7 + 1))) else (none))) else (none)) else ((fluxionref01_short.f k x5).bind fun t341 => (some t341))
def fluxionref01_Sub.f (k : Nat) (l0 : List Int) (l1 : List Int) : Option (List Int) := if 0 ≤ (l0.length : Int) then (if ((l0.length : Int) : Int).toNat ≤ 70368744177664 then (fluxionref01_Sub.l0 k l0 l1 (List.replicate ((l0.length : Int) : Int).toNat 0) 0 0) else (none)) else (none)
theorem fluxionref01_Sub.mono_l : ∀ k, (∀ y0 y1 y2 y3 y4, LeO (fluxionref01_Sub.l0 k y0 y1 y2 y3 y4) (fluxionref01_Sub.l0 (k + 1) y0 y1 y2 y3 y4))
  | 0 => fun _ _ _ _ _ r h => by simp [fluxionref01_Sub.l0] at h
  | k + 1 => by
    have ih0 := fluxionref01_Sub.mono_l k
    · intro y0 y1 y2 y3 y4
      unfold fluxionref01_Sub.l0
      repeat' first
      | (with_reducible exact ih0 _ _ _ _ _)
      | (with_reducible exact fluxionref01_short.mono _ _)
      | (with_reducible exact LeO.refl _)
      | (with_reducible exact LeO.none _)
      | (with_reducible refine LeO.ite ?_ ?_)
      | (with_reducible refine LeO.bind ?_ (fun _ => ?_))
      | exact ih0 _ _ _ _ _
      | exact fluxionref01_short.mono _ _
      | exact LeO.none _
      | refine LeO.ite ?_ ?_
      | refine LeO.bind ?_ (fun _ => ?_)
theorem fluxionref01_Sub.mono : ∀ a0 a1 k, LeO (fluxionref01_Sub.f k a0 a1) (fluxionref01_Sub.f (k + 1) a0 a1) := by
  intro a0 a1 k
  have ih0 := fluxionref01_Sub.mono_l k
  unfold fluxionref01_Sub.f
  repeat' first
      | (with_reducible exact ih0 _ _ _ _ _)
      | (with_reducible exact fluxionref01_short.mono _ _)
      | (with_reducible exact LeO.refl _)
      | (with_reducible exact LeO.none _)
      | (with_reducible refine LeO.ite ?_ ?_)
      | (with_reducible refine LeO.bind ?_ (fun _ => ?_))
      | exact ih0 _ _ _ _ _
      | exact fluxionref01_short.mono _ _
      | exact LeO.none _
      | refine LeO.ite ?_ ?_
      | refine LeO.bind ?_ (fun _ => ?_)
def fluxionref01_twice.l0 : Nat → List Int → Int → List Int → Int → Option (List Int)
  | 0, _, _, _, _ => none
  | k + 1, x0, x1, x5, x6 => if x6 < (x0.length : Int) then (if 0 ≤ x6 then (if x6 < (x5.length : Int) then (fluxionref01_twice.l0 k x0 ((rd x0 x6) / 2147483648) (x5.set (x6 : Int).toNat (Go.bits .or .u32 (((rd x0 x6) * 2) % 4294967296) x1)) (wrap64 (x6 + 1))) else (none)) else (none)) else (if 0 ≤ (x0.length : Int) then (if (x0.length : Int) < (x5.length : Int) then ((fluxionref01_short.f k (x5.set ((x0.length : Int) : Int).toNat x1)).bind fun t351 => (some t351)) else (none)) else (none))
def fluxionref01_twice.f (k : Nat) (l0 : List Int) (a1 : Int) : Option (List Int) := if 0 ≤ (wrap64 ((l0.length : Int) + 1)) then (if (wrap64 ((l0.length : Int) + 1) : Int).toNat ≤ 70368744177664 then (fluxionref01_twice.l0 k l0 a1 (List.replicate (wrap64 ((l0.length : Int) + 1) : Int).toNat 0) 0) else (none)) else (none)
theorem fluxionref01_twice.mono_l : ∀ k, (∀ y0 y1 y2 y3, LeO (fluxionref01_twice.l0 k y0 y1 y2 y3) (fluxionref01_twice.l0 (k + 1) y0 y1 y2 y3))
  | 0 => fun _ _ _ _ r h => by simp [fluxionref01_twice.l0] at h
  | k + 1 => by
    have ih0 := fluxionref01_twice.mono_l k
    · intro y0 y1 y2 y3
      unfold fluxionref01_twice.l0
      repeat' first
      | (with_reducible exact ih0 _ _ _ _)
      | (with_reducible exact fluxionref01_short.mono _ _)
      | (with_reducible exact LeO.refl _)
      | (with_reducible exact LeO.none _)
      | (with_reducible refine LeO.ite ?_ ?_)
      | (with_reducible refine LeO.bind ?_ (fun _ => ?_))
      | exact ih0 _ _ _ _
      | exact fluxionref01_short.mono _ _
      | exact LeO.none _
      | refine LeO.ite ?_ ?_
      | refine LeO.bind ?_ (fun _ => ?_)
theorem fluxionref01_twice.mono : ∀ a0 a1 k, LeO (fluxionref01_twice.f k a0 a1) (fluxionref01_twice.f (k + 1) a0 a1) := by
  intro a0 a1 k
  have ih0 := fluxionref01_twice.mono_l k
  unfold fluxionref01_twice.f
  repeat' first
      | (with_reducible exact ih0 _ _ _ _)
      | (with_reducible exact fluxionref01_short.mono _ _)
      | (with_reducible exact LeO.refl _)
      | (with_reducible exact LeO.none _)
      | (with_reducible refine LeO.ite ?_ ?_)
      | (with_reducible refine LeO.bind ?_ (fun _ => ?_))
      | exact ih0 _ _ _ _
      | exact fluxionref01_short.mono _ _
      | exact LeO.none _
      | refine LeO.ite ?_ ?_
      | refine LeO.bind ?_ (fun _ => ?_)
def fluxionref01_bit.f (l0 : List Int) (a1 : Int) : Option (Int) := if 0 ≤ (wrap64 (Int.tdiv a1 32)) then (if (wrap64 (Int.tdiv a1 32)) < (l0.length : Int) then (if 0 ≤ (Int.tmod a1 32) then (some (Int.tmod (shr .u32 (rd l0 (wrap64 (Int.tdiv a1 32))) (Int.tmod a1 32)) 2)) else (none)) else (none)) else (none)
def fluxionref01_Div.l0 : Nat → List Int → List Int → List Int → List Int → Int → Option (List Int × List Int)
  | 0, _, _, _, _, _ => none
  | k + 1, x0, x1, x6, x7, x8 => if x8 ≥ 0 then ((fluxionref01_bit.f x0 x8).bind fun t362 => ((fluxionref01_twice.f k x7 t362).bind fun t363 => ((fluxionref01_Compare.f k t363 x1).bind fun t366 => (if t366 ≥ 0 then ((fluxionref01_Sub.f k t363 x1).bind fun t367 => (if 0 ≤ (wrap64 (Int.tdiv x8 32)) then (if (wrap64 (Int.tdiv x8 32)) < (x6.length : Int) then (if 0 ≤ (Int.tmod x8 32) then (fluxionref01_Div.l0 k x0 x1 (x6.set ((wrap64 (Int.tdiv x8 32)) : Int).toNat (Go.bits .or .u32 (rd x6 (wrap64 (Int.tdiv x8 32))) (shl .u32 1 (Int.tmod x8 32)))) t367 (wrap64 (x8 - 1))) else (none)) else (none)) else (none))) else (fluxionref01_Div.l0 k x0 x1 x6 t363 (wrap64 (x8 - 1))))))) else ((fluxionref01_short.f k x6).bind fun t359 => (some (t359, x7)))
def fluxionref01_Div.f (k : Nat) (l0 : List Int) (l1 : List Int) : Option (List Int × List Int) := if 0 ≤ (l0.length : Int) then (if ((l0.length : Int) : Int).toNat ≤ 70368744177664 then ((fluxionref01_Bits.f k l0).bind fun t358 => (fluxionref01_Div.l0 k l0 l1 (List.replicate ((l0.length : Int) : Int).toNat 0) ([] : List Int) (wrap64 (t358 - 1)))) else (none)) else (none)
theorem fluxionref01_Div.mono_l : ∀ k, (∀ y0 y1 y2 y3 y4, LeO (fluxionref01_Div.l0 k y0 y1 y2 y3 y4) (fluxionref01_Div.l0 (k + 1) y0 y1 y2 y3 y4))
  | 0 => fun _ _ _ _ _ r h => by simp [fluxionref01_Div.l0] at h
  | k + 1 => by
    have ih0 := fluxionref01_Div.mono_l k
    · intro y0 y1 y2 y3 y4
      unfold fluxionref01_Div.l0
      repeat' first
      | (with_reducible exact ih0 _ _ _ _ _)
      | (with_reducible exact fluxionref01_Bits.mono _ _)
      | (with_reducible exact fluxionref01_Compare.mono _ _ _)
      | (with_reducible exact fluxionref01_Sub.mono _ _ _)
      | (with_reducible exact fluxionref01_short.mono _ _)
      | (with_reducible exact fluxionref01_twice.mono _ _ _)
      | (with_reducible exact LeO.refl _)
      | (with_reducible exact LeO.none _)
      | (with_reducible refine LeO.ite ?_ ?_)
      | (with_reducible refine LeO.bind ?_ (fun _ => ?_))
      | exact ih0 _ _ _ _ _
      | exact fluxionref01_Bits.mono _ _
      | exact fluxionref01_Compare.mono _ _ _
      | exact fluxionref01_Sub.mono _ _ _
      | exact fluxionref01_short.mono _ _
      | exact fluxionref01_twice.mono _ _ _
      | exact LeO.none _
      | refine LeO.ite ?_ ?_
      | refine LeO.bind ?_ (fun _ => ?_)
theorem fluxionref01_Div.mono : ∀ a0 a1 k, LeO (fluxionref01_Div.f k a0 a1) (fluxionref01_Div.f (k + 1) a0 a1) := by
  intro a0 a1 k
  have ih0 := fluxionref01_Div.mono_l k
  unfold fluxionref01_Div.f
  repeat' first
      | (with_reducible exact ih0 _ _ _ _ _)
      | (with_reducible exact fluxionref01_Bits.mono _ _)
      | (with_reducible exact fluxionref01_Compare.mono _ _ _)
      | (with_reducible exact fluxionref01_Sub.mono _ _ _)
      | (with_reducible exact fluxionref01_short.mono _ _)
      | (with_reducible exact fluxionref01_twice.mono _ _ _)
      | (with_reducible exact LeO.refl _)
      | (with_reducible exact LeO.none _)
      | (with_reducible refine LeO.ite ?_ ?_)
      | (with_reducible refine LeO.bind ?_ (fun _ => ?_))
      | exact ih0 _ _ _ _ _
      | exact fluxionref01_Bits.mono _ _
      | exact fluxionref01_Compare.mono _ _ _
      | exact fluxionref01_Sub.mono _ _ _
      | exact fluxionref01_short.mono _ _
      | exact fluxionref01_twice.mono _ _ _
      | exact LeO.none _
      | refine LeO.ite ?_ ?_
      | refine LeO.bind ?_ (fun _ => ?_)
def fluxionref01_half.l0 : Nat → List Int → List Int → Int → Int → Option (List Int)
  | 0, _, _, _, _ => none
  | k + 1, x0, x3, x4, x5 => if x5 ≥ 0 then (if 0 ≤ x5 then (if x5 < (x0.length : Int) then (if x5 < (x3.length : Int) then (fluxionref01_half.l0 k x0 (x3.set (x5 : Int).toNat (Go.bits .or .u32 ((rd x0 x5) / 2) ((x4 * 2147483648) % 4294967296))) (Int.tmod (rd x0 x5) 2) (wrap64 (x5 - 1))) else (none)) else (none)) else (none)) else ((fluxionref01_short.f k x3).bind fun t403 => (some t403))
def fluxionref01_half.f (k : Nat) (l0 : List Int) : Option (List Int) := if 0 ≤ (l0.length : Int) then (if ((l0.length : Int) : Int).toNat ≤ 70368744177664 then (fluxionref01_half.l0 k l0 (List.replicate ((l0.length : Int) : Int).toNat 0) 0 (wrap64 ((l0.length : Int) - 1))) else (none)) else (none)
theorem fluxionref01_half.mono_l : ∀ k, (∀ y0 y1 y2 y3, LeO (fluxionref01_half.l0 k y0 y1 y2 y3) (fluxionref01_half.l0 (k + 1) y0 y1 y2 y3))
  | 0 => fun _ _ _ _ r h => by simp [fluxionref01_half.l0] at h
  | k + 1 => by
    have ih0 := fluxionref01_half.mono_l k
    · intro y0 y1 y2 y3
      unfold fluxionref01_half.l0
      repeat' first
      | (with_reducible exact ih0 _ _ _ _)
      | (with_reducible exact fluxionref01_short.mono _ _)
      | (with_reducible exact LeO.refl _)
      | (with_reducible exact LeO.none _)
      | (with_reducible refine LeO.ite ?_ ?_)
      | (with_reducible refine LeO.bind ?_ (fun _ => ?_))
      | exact ih0 _ _ _ _
      | exact fluxionref01_short.mono _ _
      | exact LeO.none _
      | refine LeO.ite ?_ ?_
      | refine LeO.bind ?_ (fun _ => ?_)
theorem fluxionref01_half.mono : ∀ a0 k, LeO (fluxionref01_half.f k a0) (fluxionref01_half.f (k + 1) a0) := by
  intro a0 k
  have ih0 := fluxionref01_half.mono_l k
  unfold fluxionref01_half.f
  repeat' first
      | (with_reducible exact ih0 _ _ _ _)
      | (with_reducible exact fluxionref01_short.mono _ _)
      | (with_reducible exact LeO.refl _)
      | (with_reducible exact LeO.none _)
      | (with_reducible refine LeO.ite ?_ ?_)
      | (with_reducible refine LeO.bind ?_ (fun _ => ?_))
      | exact ih0 _ _ _ _
      | exact fluxionref01_short.mono _ _
      | exact LeO.none _
      | refine LeO.ite ?_ ?_
      | refine LeO.bind ?_ (fun _ => ?_)
mutual
def fluxionref01_Gcd.l0 : Nat → List Int → List Int → Int → Option (List Int)
  | 0, _, _, _ => none
  | k + 1, x0, x1, x5 => if 0 < (x0.length : Int) then (if (Int.tmod (rd x0 0) 2) = 0 then (if 0 < (x1.length : Int) then (fluxionref01_Gcd.j1 k x0 x1 x5 ((Int.tmod (rd x1 0) 2) == 0)) else (none)) else (fluxionref01_Gcd.j1 k x0 x1 x5 false)) else (none)
def fluxionref01_Gcd.j1 : Nat → List Int → List Int → Int → Bool → Option (List Int)
  | 0, _, _, _, _ => none
  | k + 1, x0, x1, x5, x31 => if x31 = true then ((fluxionref01_half.f k x0).bind fun t420 => ((fluxionref01_half.f k x1).bind fun t423 => (fluxionref01_Gcd.l0 k t420 t423 (wrap64 (x5 + 1))))) else (fluxionref01_Gcd.l1 k x0 x1 x5)
def fluxionref01_Gcd.l1 : Nat → List Int → List Int → Int → Option (List Int)
  | 0, _, _, _ => none
  | k + 1, x0, x1, x5 => if (x1.length : Int) > 0 then (fluxionref01_Gcd.l2 k x0 x1 x5) else (fluxionref01_Gcd.l4 k x0 x5 0)
def fluxionref01_Gcd.l2 : Nat → List Int → List Int → Int → Option (List Int)
  | 0, _, _, _ => none
  | k + 1, x0, x1, x5 => if 0 < (x0.length : Int) then (if (Int.tmod (rd x0 0) 2) = 0 then ((fluxionref01_half.f k x0).bind fun t427 => (fluxionref01_Gcd.l2 k t427 x1 x5)) else (fluxionref01_Gcd.l3 k x0 x1 x5)) else (none)
def fluxionref01_Gcd.l3 : Nat → List Int → List Int → Int → Option (List Int)
  | 0, _, _, _ => none
  | k + 1, x0, x1, x5 => if 0 < (x1.length : Int) then (if (Int.tmod (rd x1 0) 2) = 0 then ((fluxionref01_half.f k x1).bind fun t431 => (fluxionref01_Gcd.l3 k x0 t431 x5)) else ((fluxionref01_Compare.f k x0 x1).bind fun t434 => (if t434 > 0 then ((fluxionref01_Sub.f k x0 x1).bind fun t435 => (fluxionref01_Gcd.l1 k x1 t435 x5)) else ((fluxionref01_Sub.f k x1 x0).bind fun t438 => (fluxionref01_Gcd.l1 k x0 t438 x5))))) else (none)
def fluxionref01_Gcd.l4 : Nat → List Int → Int → Int → Option (List Int)
  | 0, _, _, _ => none
  | k + 1, x0, x5, x7 => if x7 < x5 then ((fluxionref01_twice.f k x0 0).bind fun t441 => (fluxionref01_Gcd.l4 k t441 x5 (wrap64 (x7 + 1)))) else ((some (([] : List Int) : List Int)).bind fun y444 => (if y444.length + x0.length < 35184372088832 then (some (y444 ++ x0)) else (none)))
end
def fluxionref01_Gcd.f (k : Nat) (l0 : List Int) (l1 : List Int) : Option (List Int) := if (l0.length : Int) = 0 then ((some (([] : List Int) : List Int)).bind fun y406 => (if y406.length + l1.length < 35184372088832 then (some (y406 ++ l1)) else (none))) else (if (l1.length : Int) = 0 then ((some (([] : List Int) : List Int)).bind fun y412 => (if y412.length + l0.length < 35184372088832 then (some (y412 ++ l0)) else (none))) else (fluxionref01_Gcd.l0 k l0 l1 0))
theorem fluxionref01_Gcd.mono_l : ∀ k, (∀ y0 y1 y2, LeO (fluxionref01_Gcd.l0 k y0 y1 y2) (fluxionref01_Gcd.l0 (k + 1) y0 y1 y2)) ∧ (∀ y0 y1 y2 y3, LeO (fluxionref01_Gcd.j1 k y0 y1 y2 y3) (fluxionref01_Gcd.j1 (k + 1) y0 y1 y2 y3)) ∧ (∀ y0 y1 y2, LeO (fluxionref01_Gcd.l1 k y0 y1 y2) (fluxionref01_Gcd.l1 (k + 1) y0 y1 y2)) ∧ (∀ y0 y1 y2, LeO (fluxionref01_Gcd.l2 k y0 y1 y2) (fluxionref01_Gcd.l2 (k + 1) y0 y1 y2)) ∧ (∀ y0 y1 y2, LeO (fluxionref01_Gcd.l3 k y0 y1 y2) (fluxionref01_Gcd.l3 (k + 1) y0 y1 y2)) ∧ (∀ y0 y1 y2, LeO (fluxionref01_Gcd.l4 k y0 y1 y2) (fluxionref01_Gcd.l4 (k + 1) y0 y1 y2))
  | 0 => ⟨fun _ _ _ r h => by simp [fluxionref01_Gcd.l0] at h, fun _ _ _ _ r h => by simp [fluxionref01_Gcd.j1] at h, fun _ _ _ r h => by simp [fluxionref01_Gcd.l1] at h, fun _ _ _ r h => by simp [fluxionref01_Gcd.l2] at h, fun _ _ _ r h => by simp [fluxionref01_Gcd.l3] at h, fun _ _ _ r h => by simp [fluxionref01_Gcd.l4] at h⟩
  | k + 1 => by
    obtain ⟨ih0, ih1, ih2, ih3, ih4, ih5⟩ := fluxionref01_Gcd.mono_l k
    refine ⟨?_, ?_, ?_, ?_, ?_, ?_⟩
    · intro y0 y1 y2
      unfold fluxionref01_Gcd.l0
      repeat' first
      | (with_reducible exact ih0 _ _ _)
      | (with_reducible exact ih1 _ _ _ _)
      | (with_reducible exact ih2 _ _ _)
      | (with_reducible exact ih3 _ _ _)
      | (with_reducible exact ih4 _ _ _)
      | (with_reducible exact ih5 _ _ _)
      | (with_reducible exact fluxionref01_Compare.mono _ _ _)
      | (with_reducible exact fluxionref01_Sub.mono _ _ _)
      | (with_reducible exact fluxionref01_half.mono _ _)
      | (with_reducible exact fluxionref01_twice.mono _ _ _)
      | (with_reducible exact LeO.refl _)
      | (with_reducible exact LeO.none _)
      | (with_reducible refine LeO.ite ?_ ?_)
      | (with_reducible refine LeO.bind ?_ (fun _ => ?_))
      | exact ih0 _ _ _
      | exact ih1 _ _ _ _
      | exact ih2 _ _ _
      | exact ih3 _ _ _
      | exact ih4 _ _ _
      | exact ih5 _ _ _
      | exact fluxionref01_Compare.mono _ _ _
      | exact fluxionref01_Sub.mono _ _ _
      | exact fluxionref01_half.mono _ _
      | exact fluxionref01_twice.mono _ _ _
      | exact LeO.none _
      | refine LeO.ite ?_ ?_
      | refine LeO.bind ?_ (fun _ => ?_)
    · intro y0 y1 y2 y3
      unfold fluxionref01_Gcd.j1
      repeat' first
      | (with_reducible exact ih0 _ _ _)
      | (with_reducible exact ih1 _ _ _ _)
      | (with_reducible exact ih2 _ _ _)
      | (with_reducible exact ih3 _ _ _)
      | (with_reducible exact ih4 _ _ _)
      | (with_reducible exact ih5 _ _ _)
      | (with_reducible exact fluxionref01_Compare.mono _ _ _)
      | (with_reducible exact fluxionref01_Sub.mono _ _ _)
      | (with_reducible exact fluxionref01_half.mono _ _)
      | (with_reducible exact fluxionref01_twice.mono _ _ _)
      | (with_reducible exact LeO.refl _)
      | (with_reducible exact LeO.none _)
      | (with_reducible refine LeO.ite ?_ ?_)
      | (with_reducible refine LeO.bind ?_ (fun _ => ?_))
      | exact ih0 _ _ _
      | exact ih1 _ _ _ _
      | exact ih2 _ _ _
      | exact ih3 _ _ _
      | exact ih4 _ _ _
      | exact ih5 _ _ _
      | exact fluxionref01_Compare.mono _ _ _
      | exact fluxionref01_Sub.mono _ _ _
      | exact fluxionref01_half.mono _ _
      | exact fluxionref01_twice.mono _ _ _
      | exact LeO.none _
      | refine LeO.ite ?_ ?_
      | refine LeO.bind ?_ (fun _ => ?_)
    · intro y0 y1 y2
      unfold fluxionref01_Gcd.l1
      repeat' first
      | (with_reducible exact ih0 _ _ _)
      | (with_reducible exact ih1 _ _ _ _)
      | (with_reducible exact ih2 _ _ _)
      | (with_reducible exact ih3 _ _ _)
      | (with_reducible exact ih4 _ _ _)
      | (with_reducible exact ih5 _ _ _)
      | (with_reducible exact fluxionref01_Compare.mono _ _ _)
      | (with_reducible exact fluxionref01_Sub.mono _ _ _)
      | (with_reducible exact fluxionref01_half.mono _ _)
      | (with_reducible exact fluxionref01_twice.mono _ _ _)
      | (with_reducible exact LeO.refl _)
      | (with_reducible exact LeO.none _)
      | (with_reducible refine LeO.ite ?_ ?_)
      | (with_reducible refine LeO.bind ?_ (fun _ => ?_))
      | exact ih0 _ _ _
      | exact ih1 _ _ _ _
      | exact ih2 _ _ _
      | exact ih3 _ _ _
      | exact ih4 _ _ _
      | exact ih5 _ _ _
      | exact fluxionref01_Compare.mono _ _ _
      | exact fluxionref01_Sub.mono _ _ _
      | exact fluxionref01_half.mono _ _
      | exact fluxionref01_twice.mono _ _ _
      | exact LeO.none _
      | refine LeO.ite ?_ ?_
      | refine LeO.bind ?_ (fun _ => ?_)
    · intro y0 y1 y2
      unfold fluxionref01_Gcd.l2
      repeat' first
      | (with_reducible exact ih0 _ _ _)
      | (with_reducible exact ih1 _ _ _ _)
      | (with_reducible exact ih2 _ _ _)
      | (with_reducible exact ih3 _ _ _)
      | (with_reducible exact ih4 _ _ _)
      | (with_reducible exact ih5 _ _ _)
      | (with_reducible exact fluxionref01_Compare.mono _ _ _)
      | (with_reducible exact fluxionref01_Sub.mono _ _ _)
      | (with_reducible exact fluxionref01_half.mono _ _)
      | (with_reducible exact fluxionref01_twice.mono _ _ _)
      | (with_reducible exact LeO.refl _)
      | (with_reducible exact LeO.none _)
      | (with_reducible refine LeO.ite ?_ ?_)
      | (with_reducible refine LeO.bind ?_ (fun _ => ?_))
      | exact ih0 _ _ _
      | exact ih1 _ _ _ _
      | exact ih2 _ _ _
      | exact ih3 _ _ _
      | exact ih4 _ _ _
      | exact ih5 _ _ _
      | exact fluxionref01_Compare.mono _ _ _
      | exact fluxionref01_Sub.mono _ _ _
      | exact fluxionref01_half.mono _ _
      | exact fluxionref01_twice.mono _ _ _
      | exact LeO.none _
      | refine LeO.ite ?_ ?_
      | refine LeO.bind ?_ (fun _ => ?_)
    · intro y0 y1 y2
      unfold fluxionref01_Gcd.l3
      repeat' first
      | (with_reducible exact ih0 _ _ _)
      | (with_reducible exact ih1 _ _ _ _)
      | (with_reducible exact ih2 _ _ _)
      | (with_reducible exact ih3 _ _ _)
      | (with_reducible exact ih4 _ _ _)
      | (with_reducible exact ih5 _ _ _)
      | (with_reducible exact fluxionref01_Compare.mono _ _ _)
      | (with_reducible exact fluxionref01_Sub.mono _ _ _)
      | (with_reducible exact fluxionref01_half.mono _ _)
      | (with_reducible exact fluxionref01_twice.mono _ _ _)
      | (with_reducible exact LeO.refl _)
      | (with_reducible exact LeO.none _)
      | (with_reducible refine LeO.ite ?_ ?_)
      | (with_reducible refine LeO.bind ?_ (fun _ => ?_))
      | exact ih0 _ _ _
      | exact ih1 _ _ _ _
      | exact ih2 _ _ _
      | exact ih3 _ _ _
      | exact ih4 _ _ _
      | exact ih5 _ _ _
      | exact fluxionref01_Compare.mono _ _ _
      | exact fluxionref01_Sub.mono _ _ _
      | exact fluxionref01_half.mono _ _
      | exact fluxionref01_twice.mono _ _ _
      | exact LeO.none _
      | refine LeO.ite ?_ ?_
      | refine LeO.bind ?_ (fun _ => ?_)
    · intro y0 y1 y2
      unfold fluxionref01_Gcd.l4
      repeat' first
      | (with_reducible exact ih0 _ _ _)
      | (with_reducible exact ih1 _ _ _ _)
      | (with_reducible exact ih2 _ _ _)
      | (with_reducible exact ih3 _ _ _)
      | (with_reducible exact ih4 _ _ _)
      | (with_reducible exact ih5 _ _ _)
      | (with_reducible exact fluxionref01_Compare.mono _ _ _)
      | (with_reducible exact fluxionref01_Sub.mono _ _ _)
      | (with_reducible exact fluxionref01_half.mono _ _)
      | (with_reducible exact fluxionref01_twice.mono _ _ _)
      | (with_reducible exact LeO.refl _)
      | (with_reducible exact LeO.none _)
      | (with_reducible refine LeO.ite ?_ ?_)
      | (with_reducible refine LeO.bind ?_ (fun _ => ?_))
      | exact ih0 _ _ _
      | exact ih1 _ _ _ _
      | exact ih2 _ _ _
      | exact ih3 _ _ _
      | exact ih4 _ _ _
      | exact ih5 _ _ _
      | exact fluxionref01_Compare.mono _ _ _
      | exact fluxionref01_Sub.mono _ _ _
      | exact fluxionref01_half.mono _ _
      | exact fluxionref01_twice.mono _ _ _
      | exact LeO.none _
      | refine LeO.ite ?_ ?_
      | refine LeO.bind ?_ (fun _ => ?_)
theorem fluxionref01_Gcd.mono : ∀ a0 a1 k, LeO (fluxionref01_Gcd.f k a0 a1) (fluxionref01_Gcd.f (k + 1) a0 a1) := by
  intro a0 a1 k
  obtain ⟨ih0, ih1, ih2, ih3, ih4, ih5⟩ := fluxionref01_Gcd.mono_l k
  unfold fluxionref01_Gcd.f
  repeat' first
      | (with_reducible exact ih0 _ _ _)
      | (with_reducible exact ih1 _ _ _ _)
      | (with_reducible exact ih2 _ _ _)
      | (with_reducible exact ih3 _ _ _)
      | (with_reducible exact ih4 _ _ _)
      | (with_reducible exact ih5 _ _ _)
      | (with_reducible exact fluxionref01_Compare.mono _ _ _)
      | (with_reducible exact fluxionref01_Sub.mono _ _ _)
      | (with_reducible exact fluxionref01_half.mono _ _)
      | (with_reducible exact fluxionref01_twice.mono _ _ _)
      | (with_reducible exact LeO.refl _)
      | (with_reducible exact LeO.none _)
      | (with_reducible refine LeO.ite ?_ ?_)
      | (with_reducible refine LeO.bind ?_ (fun _ => ?_))
      | exact ih0 _ _ _
      | exact ih1 _ _ _ _
      | exact ih2 _ _ _
      | exact ih3 _ _ _
      | exact ih4 _ _ _
      | exact ih5 _ _ _
      | exact fluxionref01_Compare.mono _ _ _
      | exact fluxionref01_Sub.mono _ _ _
      | exact fluxionref01_half.mono _ _
      | exact fluxionref01_twice.mono _ _ _
      | exact LeO.none _
      | refine LeO.ite ?_ ?_
      | refine LeO.bind ?_ (fun _ => ?_)
def fluxionref01_Add.l0 : Nat → List Int → List Int → List Int → Int → Int → Option (List Int)
  | 0, _, _, _, _, _ => none
  | k + 1, x0, x1, x5, x6, x7 => if x7 < (x5.length : Int) then ((fluxionref01_digit.f x0 x7).bind fun t471 => ((fluxionref01_digit.f x1 x7).bind fun t472 => (if 0 ≤ x7 then (fluxionref01_Add.l0 k x0 x1 (x5.set (x7 : Int).toNat ((IntKind.u64.wrap ((IntKind.u64.wrap (t471 + t472)) + x6)) % 4294967296)) ((IntKind.u64.wrap ((IntKind.u64.wrap (t471 + t472)) + x6)) / 4294967296) (wrap64 (x7 + 1))) else (none)))) else ((fluxionref01_short.f k x5).bind fun t474 => (some t474))
def fluxionref01_Add.f (k : Nat) (l0 : List Int) (l1 : List Int) : Option (List Int) := if 0 ≤ (wrap64 ((mx (l0.length : Int) (l1.length : Int)) + 1)) then (if (wrap64 ((mx (l0.length : Int) (l1.length : Int)) + 1) : Int).toNat ≤ 70368744177664 then (fluxionref01_Add.l0 k l0 l1 (List.replicate (wrap64 ((mx (l0.length : Int) (l1.length : Int)) + 1) : Int).toNat 0) 0 0) else (none)) else (none)
theorem fluxionref01_Add.mono_l : ∀ k, (∀ y0 y1 y2 y3 y4, LeO (fluxionref01_Add.l0 k y0 y1 y2 y3 y4) (fluxionref01_Add.l0 (k + 1) y0 y1 y2 y3 y4))
  | 0 => fun _ _ _ _ _ r h => by simp [fluxionref01_Add.l0] at h
  | k + 1 => by
    have ih0 := fluxionref01_Add.mono_l k
    · intro y0 y1 y2 y3 y4
      unfold fluxionref01_Add.l0
      repeat' first
      | (with_reducible exact ih0 _ _ _ _ _)
      | (with_reducible exact fluxionref01_short.mono _ _)
      | (with_reducible exact LeO.refl _)
      | (with_reducible exact LeO.none _)
      | (with_reducible refine LeO.ite ?_ ?_)
      | (with_reducible refine LeO.bind ?_ (fun _ => ?_))
      | exact ih0 _ _ _ _ _
      | exact fluxionref01_short.mono _ _
      | exact LeO.none _
      | refine LeO.ite ?_ ?_
      | refine LeO.bind ?_ (fun _ => ?_)
theorem fluxionref01_Add.mono : ∀ a0 a1 k, LeO (fluxionref01_Add.f k a0 a1) (fluxionref01_Add.f (k + 1) a0 a1) := by
  intro a0 a1 k
  have ih0 := fluxionref01_Add.mono_l k
  unfold fluxionref01_Add.f
  repeat' first
      | (with_reducible exact ih0 _ _ _ _ _)
      | (with_reducible exact fluxionref01_short.mono _ _)
      | (with_reducible exact LeO.refl _)
      | (with_reducible exact LeO.none _)
      | (with_reducible refine LeO.ite ?_ ?_)
      | (with_reducible refine LeO.bind ?_ (fun _ => ?_))
      | exact ih0 _ _ _ _ _
      | exact fluxionref01_short.mono _ _
      | exact LeO.none _
      | refine LeO.ite ?_ ?_
      | refine LeO.bind ?_ (fun _ => ?_)
mutual
def fluxionref01_Root.l0 : Nat → List Int → List Int → List Int → Int → Option (List Int)
  | 0, _, _, _, _ => none
  | k + 1, x0, x3, x4, x5 => if x5 ≥ 0 then (if (wrap64 ((wrap64 (2 * x5)) + 1)) < (wrap64 (32 * (x0.length : Int))) then ((fluxionref01_bit.f x0 (wrap64 ((wrap64 (2 * x5)) + 1))).bind fun t478 => (fluxionref01_Root.j1 k x0 x3 x4 x5 t478)) else (fluxionref01_Root.j1 k x0 x3 x4 x5 0)) else (some x3)
def fluxionref01_Root.j1 : Nat → List Int → List Int → List Int → Int → Int → Option (List Int)
  | 0, _, _, _, _, _ => none
  | k + 1, x0, x3, x4, x5, x6 => (fluxionref01_twice.f k x4 x6).bind fun t479 => ((fluxionref01_bit.f x0 (wrap64 (2 * x5))).bind fun t482 => ((fluxionref01_twice.f k t479 t482).bind fun t483 => ((fluxionref01_twice.f k x3 0).bind fun t486 => ((fluxionref01_twice.f k t486 1).bind fun t489 => ((fluxionref01_twice.f k x3 0).bind fun t492 => ((fluxionref01_Compare.f k t483 t489).bind fun t495 => (if t495 ≥ 0 then ((fluxionref01_Sub.f k t483 t489).bind fun t496 => ((fluxionref01_Add.f k t492 (([1] : List Int))).bind fun t502 => (fluxionref01_Root.l0 k x0 t502 t496 (wrap64 (x5 - 1))))) else (fluxionref01_Root.l0 k x0 t492 t483 (wrap64 (x5 - 1))))))))))
end
def fluxionref01_Root.f (k : Nat) (l0 : List Int) : Option (List Int) := (fluxionref01_Bits.f k l0).bind fun t477 => (fluxionref01_Root.l0 k l0 ([] : List Int) ([] : List Int) (wrap64 ((wrap64 (Int.tdiv (wrap64 (t477 + 1)) 2)) - 1)))
theorem fluxionref01_Root.mono_l : ∀ k, (∀ y0 y1 y2 y3, LeO (fluxionref01_Root.l0 k y0 y1 y2 y3) (fluxionref01_Root.l0 (k + 1) y0 y1 y2 y3)) ∧ (∀ y0 y1 y2 y3 y4, LeO (fluxionref01_Root.j1 k y0 y1 y2 y3 y4) (fluxionref01_Root.j1 (k + 1) y0 y1 y2 y3 y4))
  | 0 => ⟨fun _ _ _ _ r h => by simp [fluxionref01_Root.l0] at h, fun _ _ _ _ _ r h => by simp [fluxionref01_Root.j1] at h⟩
  | k + 1 => by
    obtain ⟨ih0, ih1⟩ := fluxionref01_Root.mono_l k
    refine ⟨?_, ?_⟩
    · intro y0 y1 y2 y3
      unfold fluxionref01_Root.l0
      repeat' first
      | (with_reducible exact ih0 _ _ _ _)
      | (with_reducible exact ih1 _ _ _ _ _)
      | (with_reducible exact fluxionref01_Add.mono _ _ _)
      | (with_reducible exact fluxionref01_Bits.mono _ _)
      | (with_reducible exact fluxionref01_Compare.mono _ _ _)
      | (with_reducible exact fluxionref01_Sub.mono _ _ _)
      | (with_reducible exact fluxionref01_twice.mono _ _ _)
      | (with_reducible exact LeO.refl _)
      | (with_reducible exact LeO.none _)
      | (with_reducible refine LeO.ite ?_ ?_)
      | (with_reducible refine LeO.bind ?_ (fun _ => ?_))
      | exact ih0 _ _ _ _
      | exact ih1 _ _ _ _ _
      | exact fluxionref01_Add.mono _ _ _
      | exact fluxionref01_Bits.mono _ _
      | exact fluxionref01_Compare.mono _ _ _
      | exact fluxionref01_Sub.mono _ _ _
      | exact fluxionref01_twice.mono _ _ _
      | exact LeO.none _
      | refine LeO.ite ?_ ?_
      | refine LeO.bind ?_ (fun _ => ?_)
    · intro y0 y1 y2 y3 y4
      unfold fluxionref01_Root.j1
      repeat' first
      | (with_reducible exact ih0 _ _ _ _)
      | (with_reducible exact ih1 _ _ _ _ _)
      | (with_reducible exact fluxionref01_Add.mono _ _ _)
      | (with_reducible exact fluxionref01_Bits.mono _ _)
      | (with_reducible exact fluxionref01_Compare.mono _ _ _)
      | (with_reducible exact fluxionref01_Sub.mono _ _ _)
      | (with_reducible exact fluxionref01_twice.mono _ _ _)
      | (with_reducible exact LeO.refl _)
      | (with_reducible exact LeO.none _)
      | (with_reducible refine LeO.ite ?_ ?_)
      | (with_reducible refine LeO.bind ?_ (fun _ => ?_))
      | exact ih0 _ _ _ _
      | exact ih1 _ _ _ _ _
      | exact fluxionref01_Add.mono _ _ _
      | exact fluxionref01_Bits.mono _ _
      | exact fluxionref01_Compare.mono _ _ _
      | exact fluxionref01_Sub.mono _ _ _
      | exact fluxionref01_twice.mono _ _ _
      | exact LeO.none _
      | refine LeO.ite ?_ ?_
      | refine LeO.bind ?_ (fun _ => ?_)
theorem fluxionref01_Root.mono : ∀ a0 k, LeO (fluxionref01_Root.f k a0) (fluxionref01_Root.f (k + 1) a0) := by
  intro a0 k
  obtain ⟨ih0, ih1⟩ := fluxionref01_Root.mono_l k
  unfold fluxionref01_Root.f
  repeat' first
      | (with_reducible exact ih0 _ _ _ _)
      | (with_reducible exact ih1 _ _ _ _ _)
      | (with_reducible exact fluxionref01_Add.mono _ _ _)
      | (with_reducible exact fluxionref01_Bits.mono _ _)
      | (with_reducible exact fluxionref01_Compare.mono _ _ _)
      | (with_reducible exact fluxionref01_Sub.mono _ _ _)
      | (with_reducible exact fluxionref01_twice.mono _ _ _)
      | (with_reducible exact LeO.refl _)
      | (with_reducible exact LeO.none _)
      | (with_reducible refine LeO.ite ?_ ?_)
      | (with_reducible refine LeO.bind ?_ (fun _ => ?_))
      | exact ih0 _ _ _ _
      | exact ih1 _ _ _ _ _
      | exact fluxionref01_Add.mono _ _ _
      | exact fluxionref01_Bits.mono _ _
      | exact fluxionref01_Compare.mono _ _ _
      | exact fluxionref01_Sub.mono _ _ _
      | exact fluxionref01_twice.mono _ _ _
      | exact LeO.none _
      | refine LeO.ite ?_ ?_
      | refine LeO.bind ?_ (fun _ => ?_)
mutual
def fluxionref01_Text.l0 : Nat → List Int → List Int → Option (ByteArray)
  | 0, _, _ => none
  | k + 1, x3, x4 => if (x4.length : Int) > 0 then (fluxionref01_Text.l1 k x3 x4 0 (wrap64 ((x4.length : Int) - 1))) else (fluxionref01_Text.l2 k x3 0)
def fluxionref01_Text.l1 : Nat → List Int → List Int → Int → Int → Option (ByteArray)
  | 0, _, _, _, _ => none
  | k + 1, x3, x4, x5, x6 => if x6 ≥ 0 then (if 0 ≤ x6 then (if x6 < (x4.length : Int) then (fluxionref01_Text.l1 k x3 (x4.set (x6 : Int).toNat ((IntKind.u64.wrap (Int.tdiv (Go.bits .or .u64 (IntKind.u64.wrap (x5 * 4294967296)) (IntKind.u64.wrap (rd x4 x6))) 10)) % 4294967296)) (Int.tmod (Go.bits .or .u64 (IntKind.u64.wrap (x5 * 4294967296)) (IntKind.u64.wrap (rd x4 x6))) 10) (wrap64 (x6 - 1))) else (none)) else (none)) else (if x3.length < 140737488355328 then ((fluxionref01_short.f k x4).bind fun t531 => (fluxionref01_Text.l0 k (x3 ++ [(IntKind.u64.wrap (48 + x5)) % 256]) t531)) else (none))
def fluxionref01_Text.l2 : Nat → List Int → Int → Option (ByteArray)
  | 0, _, _ => none
  | k + 1, x3, x8 => if x8 < (wrap64 ((x3.length : Int) / 2)) then (if 0 ≤ x8 then (if x8 < (x3.length : Int) then (if 0 ≤ (wrap64 ((wrap64 ((x3.length : Int) - 1)) - x8)) then (if (wrap64 ((wrap64 ((x3.length : Int) - 1)) - x8)) < (x3.length : Int) then (fluxionref01_Text.l2 k ((x3.set (x8 : Int).toNat (rd x3 (wrap64 ((wrap64 ((x3.length : Int) - 1)) - x8)))).set ((wrap64 ((wrap64 ((x3.length : Int) - 1)) - x8)) : Int).toNat (rd x3 x8)) (wrap64 (x8 + 1))) else (none)) else (none)) else (none)) else (none)) else (some (strOfNums x3))
end
def fluxionref01_Text.f (k : Nat) (l0 : List Int) : Option (ByteArray) := if (l0.length : Int) = 0 then (some (⟨#[48]⟩ : ByteArray)) else ((some (([] : List Int) : List Int)).bind fun y520 => (if y520.length + l0.length < 35184372088832 then (fluxionref01_Text.l0 k ([] : List Int) (y520 ++ l0)) else (none)))
theorem fluxionref01_Text.mono_l : ∀ k, (∀ y0 y1, LeO (fluxionref01_Text.l0 k y0 y1) (fluxionref01_Text.l0 (k + 1) y0 y1)) ∧ (∀ y0 y1 y2 y3, LeO (fluxionref01_Text.l1 k y0 y1 y2 y3) (fluxionref01_Text.l1 (k + 1) y0 y1 y2 y3)) ∧ (∀ y0 y1, LeO (fluxionref01_Text.l2 k y0 y1) (fluxionref01_Text.l2 (k + 1) y0 y1))
  | 0 => ⟨fun _ _ r h => by simp [fluxionref01_Text.l0] at h, fun _ _ _ _ r h => by simp [fluxionref01_Text.l1] at h, fun _ _ r h => by simp [fluxionref01_Text.l2] at h⟩
  | k + 1 => by
    obtain ⟨ih0, ih1, ih2⟩ := fluxionref01_Text.mono_l k
    refine ⟨?_, ?_, ?_⟩
    · intro y0 y1
      unfold fluxionref01_Text.l0
      repeat' first
      | (with_reducible exact ih0 _ _)
      | (with_reducible exact ih1 _ _ _ _)
      | (with_reducible exact ih2 _ _)
      | (with_reducible exact fluxionref01_short.mono _ _)
      | (with_reducible exact LeO.refl _)
      | (with_reducible exact LeO.none _)
      | (with_reducible refine LeO.ite ?_ ?_)
      | (with_reducible refine LeO.bind ?_ (fun _ => ?_))
      | exact ih0 _ _
      | exact ih1 _ _ _ _
      | exact ih2 _ _
      | exact fluxionref01_short.mono _ _
      | exact LeO.none _
      | refine LeO.ite ?_ ?_
      | refine LeO.bind ?_ (fun _ => ?_)
    · intro y0 y1 y2 y3
      unfold fluxionref01_Text.l1
      repeat' first
      | (with_reducible exact ih0 _ _)
      | (with_reducible exact ih1 _ _ _ _)
      | (with_reducible exact ih2 _ _)
      | (with_reducible exact fluxionref01_short.mono _ _)
      | (with_reducible exact LeO.refl _)
      | (with_reducible exact LeO.none _)
      | (with_reducible refine LeO.ite ?_ ?_)
      | (with_reducible refine LeO.bind ?_ (fun _ => ?_))
      | exact ih0 _ _
      | exact ih1 _ _ _ _
      | exact ih2 _ _
      | exact fluxionref01_short.mono _ _
      | exact LeO.none _
      | refine LeO.ite ?_ ?_
      | refine LeO.bind ?_ (fun _ => ?_)
    · intro y0 y1
      unfold fluxionref01_Text.l2
      repeat' first
      | (with_reducible exact ih0 _ _)
      | (with_reducible exact ih1 _ _ _ _)
      | (with_reducible exact ih2 _ _)
      | (with_reducible exact fluxionref01_short.mono _ _)
      | (with_reducible exact LeO.refl _)
      | (with_reducible exact LeO.none _)
      | (with_reducible refine LeO.ite ?_ ?_)
      | (with_reducible refine LeO.bind ?_ (fun _ => ?_))
      | exact ih0 _ _
      | exact ih1 _ _ _ _
      | exact ih2 _ _
      | exact fluxionref01_short.mono _ _
      | exact LeO.none _
      | refine LeO.ite ?_ ?_
      | refine LeO.bind ?_ (fun _ => ?_)
theorem fluxionref01_Text.mono : ∀ a0 k, LeO (fluxionref01_Text.f k a0) (fluxionref01_Text.f (k + 1) a0) := by
  intro a0 k
  obtain ⟨ih0, ih1, ih2⟩ := fluxionref01_Text.mono_l k
  unfold fluxionref01_Text.f
  repeat' first
      | (with_reducible exact ih0 _ _)
      | (with_reducible exact ih1 _ _ _ _)
      | (with_reducible exact ih2 _ _)
      | (with_reducible exact fluxionref01_short.mono _ _)
      | (with_reducible exact LeO.refl _)
      | (with_reducible exact LeO.none _)
      | (with_reducible refine LeO.ite ?_ ?_)
      | (with_reducible refine LeO.bind ?_ (fun _ => ?_))
      | exact ih0 _ _
      | exact ih1 _ _ _ _
      | exact ih2 _ _
      | exact fluxionref01_short.mono _ _
      | exact LeO.none _
      | refine LeO.ite ?_ ?_
      | refine LeO.bind ?_ (fun _ => ?_)
def fluxionref01_Digits.l0 : Nat → ByteArray → Int → Option (Bool)
  | 0, _, _ => none
  | k + 1, x0, x3 => if x3 < (x0.size : Int) then (if 0 ≤ x3 then (if (bt x0 x3) < 48 then (some false) else (if (bt x0 x3) > 57 then (some false) else (fluxionref01_Digits.l0 k x0 (wrap64 (x3 + 1))))) else (none)) else (some (decide ((x0.size : Int) > 0)))
def fluxionref01_Digits.f (k : Nat) (a0 : ByteArray) : Option (Bool) := fluxionref01_Digits.l0 k a0 0
theorem fluxionref01_Digits.mono_l : ∀ k, (∀ y0 y1, LeO (fluxionref01_Digits.l0 k y0 y1) (fluxionref01_Digits.l0 (k + 1) y0 y1))
  | 0 => fun _ _ r h => by simp [fluxionref01_Digits.l0] at h
  | k + 1 => by
    have ih0 := fluxionref01_Digits.mono_l k
    · intro y0 y1
      unfold fluxionref01_Digits.l0
      repeat' first
      | (with_reducible exact ih0 _ _)
      | (with_reducible exact LeO.refl _)
      | (with_reducible exact LeO.none _)
      | (with_reducible refine LeO.ite ?_ ?_)
      | (with_reducible refine LeO.bind ?_ (fun _ => ?_))
      | exact ih0 _ _
      | exact LeO.none _
      | refine LeO.ite ?_ ?_
      | refine LeO.bind ?_ (fun _ => ?_)
theorem fluxionref01_Digits.mono : ∀ a0 k, LeO (fluxionref01_Digits.f k a0) (fluxionref01_Digits.f (k + 1) a0) := by
  intro a0 k
  have ih0 := fluxionref01_Digits.mono_l k
  unfold fluxionref01_Digits.f
  repeat' first
      | (with_reducible exact ih0 _ _)
      | (with_reducible exact LeO.refl _)
      | (with_reducible exact LeO.none _)
      | (with_reducible refine LeO.ite ?_ ?_)
      | (with_reducible refine LeO.bind ?_ (fun _ => ?_))
      | exact ih0 _ _
      | exact LeO.none _
      | refine LeO.ite ?_ ?_
      | refine LeO.bind ?_ (fun _ => ?_)
mutual
def fluxionref01_Decimal.l0 : Nat → ByteArray → List Int → Int → Option (List Int)
  | 0, _, _, _ => none
  | k + 1, x0, x3, x4 => if x4 < (x0.size : Int) then (if 0 ≤ x4 then (fluxionref01_Decimal.l1 k x0 x3 x4 (((bt x0 x4) - 48) % 256) 0) else (none)) else (some x3)
def fluxionref01_Decimal.l1 : Nat → ByteArray → List Int → Int → Int → Int → Option (List Int)
  | 0, _, _, _, _, _ => none
  | k + 1, x0, x3, x4, x5, x6 => if x6 < (x3.length : Int) then (if 0 ≤ x6 then (fluxionref01_Decimal.l1 k x0 (x3.set (x6 : Int).toNat ((IntKind.u64.wrap ((IntKind.u64.wrap (10 * (IntKind.u64.wrap (rd x3 x6)))) + x5)) % 4294967296)) x4 ((IntKind.u64.wrap ((IntKind.u64.wrap (10 * (IntKind.u64.wrap (rd x3 x6)))) + x5)) / 4294967296) (wrap64 (x6 + 1))) else (none)) else (if x5 > 0 then (if x3.length < 35184372088832 then (fluxionref01_Decimal.l0 k x0 (x3 ++ [(x5) % 4294967296]) (wrap64 (x4 + 1))) else (none)) else (fluxionref01_Decimal.l0 k x0 x3 (wrap64 (x4 + 1))))
end
def fluxionref01_Decimal.f (k : Nat) (a0 : ByteArray) : Option (List Int) := fluxionref01_Decimal.l0 k a0 ([] : List Int) 0
theorem fluxionref01_Decimal.mono_l : ∀ k, (∀ y0 y1 y2, LeO (fluxionref01_Decimal.l0 k y0 y1 y2) (fluxionref01_Decimal.l0 (k + 1) y0 y1 y2)) ∧ (∀ y0 y1 y2 y3 y4, LeO (fluxionref01_Decimal.l1 k y0 y1 y2 y3 y4) (fluxionref01_Decimal.l1 (k + 1) y0 y1 y2 y3 y4))
  | 0 => ⟨fun _ _ _ r h => by simp [fluxionref01_Decimal.l0] at h, fun _ _ _ _ _ r h => by simp [fluxionref01_Decimal.l1] at h⟩
  | k + 1 => by
    obtain ⟨ih0, ih1⟩ := fluxionref01_Decimal.mono_l k
    refine ⟨?_, ?_⟩
    · intro y0 y1 y2
      unfold fluxionref01_Decimal.l0
      repeat' first
      | (with_reducible exact ih0 _ _ _)
      | (with_reducible exact ih1 _ _ _ _ _)
      | (with_reducible exact LeO.refl _)
      | (with_reducible exact LeO.none _)
      | (with_reducible refine LeO.ite ?_ ?_)
      | (with_reducible refine LeO.bind ?_ (fun _ => ?_))
      | exact ih0 _ _ _
      | exact ih1 _ _ _ _ _
      | exact LeO.none _
      | refine LeO.ite ?_ ?_
      | refine LeO.bind ?_ (fun _ => ?_)
    · intro y0 y1 y2 y3 y4
      unfold fluxionref01_Decimal.l1
      repeat' first
      | (with_reducible exact ih0 _ _ _)
      | (with_reducible exact ih1 _ _ _ _ _)
      | (with_reducible exact LeO.refl _)
      | (with_reducible exact LeO.none _)
      | (with_reducible refine LeO.ite ?_ ?_)
      | (with_reducible refine LeO.bind ?_ (fun _ => ?_))
      | exact ih0 _ _ _
      | exact ih1 _ _ _ _ _
      | exact LeO.none _
      | refine LeO.ite ?_ ?_
      | refine LeO.bind ?_ (fun _ => ?_)
theorem fluxionref01_Decimal.mono : ∀ a0 k, LeO (fluxionref01_Decimal.f k a0) (fluxionref01_Decimal.f (k + 1) a0) := by
  intro a0 k
  obtain ⟨ih0, ih1⟩ := fluxionref01_Decimal.mono_l k
  unfold fluxionref01_Decimal.f
  repeat' first
      | (with_reducible exact ih0 _ _ _)
      | (with_reducible exact ih1 _ _ _ _ _)
      | (with_reducible exact LeO.refl _)
      | (with_reducible exact LeO.none _)
      | (with_reducible refine LeO.ite ?_ ?_)
      | (with_reducible refine LeO.bind ?_ (fun _ => ?_))
      | exact ih0 _ _ _
      | exact ih1 _ _ _ _ _
      | exact LeO.none _
      | refine LeO.ite ?_ ?_
      | refine LeO.bind ?_ (fun _ => ?_)
def fluxionref01_Parse.f (k : Nat) (a0 : ByteArray) : Option (List Int × Int) := if (a0.size : Int) > 4900 then (some (([] : List Int), 3)) else ((fluxionref01_Digits.f k a0).bind fun t543 => (if t543 = true then (if 0 < (a0.size : Int) then (if (bt a0 0) = 48 then (if (a0.size : Int) > 1 then (some (([] : List Int), 5)) else ((fluxionref01_Decimal.f k a0).bind fun t544 => (some (t544, 0)))) else ((fluxionref01_Decimal.f k a0).bind fun t547 => (some (t547, 0)))) else (none)) else (some (([] : List Int), 5))))
theorem fluxionref01_Parse.mono : ∀ a0 k, LeO (fluxionref01_Parse.f k a0) (fluxionref01_Parse.f (k + 1) a0) := by
  intro a0 k
  unfold fluxionref01_Parse.f
  repeat' first
      | (with_reducible exact fluxionref01_Decimal.mono _ _)
      | (with_reducible exact fluxionref01_Digits.mono _ _)
      | (with_reducible exact LeO.refl _)
      | (with_reducible exact LeO.none _)
      | (with_reducible refine LeO.ite ?_ ?_)
      | (with_reducible refine LeO.bind ?_ (fun _ => ?_))
      | exact fluxionref01_Decimal.mono _ _
      | exact fluxionref01_Digits.mono _ _
      | exact LeO.none _
      | refine LeO.ite ?_ ?_
      | refine LeO.bind ?_ (fun _ => ?_)
mutual
def fluxionref01_Mul.l0 : Nat → List Int → List Int → List Int → Int → Option (List Int)
  | 0, _, _, _, _ => none
  | k + 1, x0, x1, x5, x6 => if x6 < (x0.length : Int) then (fluxionref01_Mul.l1 k x0 x1 x5 x6 0 0) else ((fluxionref01_short.f k x5).bind fun t588 => (some t588))
def fluxionref01_Mul.l1 : Nat → List Int → List Int → List Int → Int → Int → Int → Option (List Int)
  | 0, _, _, _, _, _, _ => none
  | k + 1, x0, x1, x5, x6, x7, x8 => if x8 < (x1.length : Int) then (if 0 ≤ (wrap64 (x6 + x8)) then (if (wrap64 (x6 + x8)) < (x5.length : Int) then (if 0 ≤ x6 then (if x6 < (x0.length : Int) then ((fluxionref01_digit.f x1 x8).bind fun t593 => (fluxionref01_Mul.l1 k x0 x1 (x5.set ((wrap64 (x6 + x8)) : Int).toNat ((IntKind.u64.wrap ((IntKind.u64.wrap ((IntKind.u64.wrap (rd x5 (wrap64 (x6 + x8)))) + (IntKind.u64.wrap ((IntKind.u64.wrap (rd x0 x6)) * t593)))) + x7)) % 4294967296)) x6 ((IntKind.u64.wrap ((IntKind.u64.wrap ((IntKind.u64.wrap (rd x5 (wrap64 (x6 + x8)))) + (IntKind.u64.wrap ((IntKind.u64.wrap (rd x0 x6)) * t593)))) + x7)) / 4294967296) (wrap64 (x8 + 1)))) else (none)) else (none)) else (none)) else (none)) else (if x7 > 0 then (if 0 ≤ (wrap64 (x6 + x8)) then (if (wrap64 (x6 + x8)) < (x5.length : Int) then (if 0 ≤ x6 then (if x6 < (x0.length : Int) then ((fluxionref01_digit.f x1 x8).bind fun t597 => (fluxionref01_Mul.l1 k x0 x1 (x5.set ((wrap64 (x6 + x8)) : Int).toNat ((IntKind.u64.wrap ((IntKind.u64.wrap ((IntKind.u64.wrap (rd x5 (wrap64 (x6 + x8)))) + (IntKind.u64.wrap ((IntKind.u64.wrap (rd x0 x6)) * t597)))) + x7)) % 4294967296)) x6 ((IntKind.u64.wrap ((IntKind.u64.wrap ((IntKind.u64.wrap (rd x5 (wrap64 (x6 + x8)))) + (IntKind.u64.wrap ((IntKind.u64.wrap (rd x0 x6)) * t597)))) + x7)) / 4294967296) (wrap64 (x8 + 1)))) else (none)) else (none)) else (none)) else (none)) else (fluxionref01_Mul.l0 k x0 x1 x5 (wrap64 (x6 + 1))))
end
def fluxionref01_Mul.f (k : Nat) (l0 : List Int) (l1 : List Int) : Option (List Int) := if 0 ≤ (wrap64 ((l0.length : Int) + (l1.length : Int))) then (if (wrap64 ((l0.length : Int) + (l1.length : Int)) : Int).toNat ≤ 70368744177664 then (fluxionref01_Mul.l0 k l0 l1 (List.replicate (wrap64 ((l0.length : Int) + (l1.length : Int)) : Int).toNat 0) 0) else (none)) else (none)
theorem fluxionref01_Mul.mono_l : ∀ k, (∀ y0 y1 y2 y3, LeO (fluxionref01_Mul.l0 k y0 y1 y2 y3) (fluxionref01_Mul.l0 (k + 1) y0 y1 y2 y3)) ∧ (∀ y0 y1 y2 y3 y4 y5, LeO (fluxionref01_Mul.l1 k y0 y1 y2 y3 y4 y5) (fluxionref01_Mul.l1 (k + 1) y0 y1 y2 y3 y4 y5))
  | 0 => ⟨fun _ _ _ _ r h => by simp [fluxionref01_Mul.l0] at h, fun _ _ _ _ _ _ r h => by simp [fluxionref01_Mul.l1] at h⟩
  | k + 1 => by
    obtain ⟨ih0, ih1⟩ := fluxionref01_Mul.mono_l k
    refine ⟨?_, ?_⟩
    · intro y0 y1 y2 y3
      unfold fluxionref01_Mul.l0
      repeat' first
      | (with_reducible exact ih0 _ _ _ _)
      | (with_reducible exact ih1 _ _ _ _ _ _)
      | (with_reducible exact fluxionref01_short.mono _ _)
      | (with_reducible exact LeO.refl _)
      | (with_reducible exact LeO.none _)
      | (with_reducible refine LeO.ite ?_ ?_)
      | (with_reducible refine LeO.bind ?_ (fun _ => ?_))
      | exact ih0 _ _ _ _
      | exact ih1 _ _ _ _ _ _
      | exact fluxionref01_short.mono _ _
      | exact LeO.none _
      | refine LeO.ite ?_ ?_
      | refine LeO.bind ?_ (fun _ => ?_)
    · intro y0 y1 y2 y3 y4 y5
      unfold fluxionref01_Mul.l1
      repeat' first
      | (with_reducible exact ih0 _ _ _ _)
      | (with_reducible exact ih1 _ _ _ _ _ _)
      | (with_reducible exact fluxionref01_short.mono _ _)
      | (with_reducible exact LeO.refl _)
      | (with_reducible exact LeO.none _)
      | (with_reducible refine LeO.ite ?_ ?_)
      | (with_reducible refine LeO.bind ?_ (fun _ => ?_))
      | exact ih0 _ _ _ _
      | exact ih1 _ _ _ _ _ _
      | exact fluxionref01_short.mono _ _
      | exact LeO.none _
      | refine LeO.ite ?_ ?_
      | refine LeO.bind ?_ (fun _ => ?_)
theorem fluxionref01_Mul.mono : ∀ a0 a1 k, LeO (fluxionref01_Mul.f k a0 a1) (fluxionref01_Mul.f (k + 1) a0 a1) := by
  intro a0 a1 k
  obtain ⟨ih0, ih1⟩ := fluxionref01_Mul.mono_l k
  unfold fluxionref01_Mul.f
  repeat' first
      | (with_reducible exact ih0 _ _ _ _)
      | (with_reducible exact ih1 _ _ _ _ _ _)
      | (with_reducible exact fluxionref01_short.mono _ _)
      | (with_reducible exact LeO.refl _)
      | (with_reducible exact LeO.none _)
      | (with_reducible refine LeO.ite ?_ ?_)
      | (with_reducible refine LeO.bind ?_ (fun _ => ?_))
      | exact ih0 _ _ _ _
      | exact ih1 _ _ _ _ _ _
      | exact fluxionref01_short.mono _ _
      | exact LeO.none _
      | refine LeO.ite ?_ ?_
      | refine LeO.bind ?_ (fun _ => ?_)
def nat_Of.f (k : Nat) (a0 : Int) : Option (List Int) := (nat_trim.f k (([(a0) % 4294967296, (a0 / 4294967296) % 4294967296] : List Int))).bind fun t721 => (some t721)
theorem nat_Of.mono : ∀ a0 k, LeO (nat_Of.f k a0) (nat_Of.f (k + 1) a0) := by
  intro a0 k
  unfold nat_Of.f
  repeat' first
      | (with_reducible exact nat_trim.mono _ _)
      | (with_reducible exact LeO.refl _)
      | (with_reducible exact LeO.none _)
      | (with_reducible refine LeO.ite ?_ ?_)
      | (with_reducible refine LeO.bind ?_ (fun _ => ?_))
      | exact nat_trim.mono _ _
      | exact LeO.none _
      | refine LeO.ite ?_ ?_
      | refine LeO.bind ?_ (fun _ => ?_)
def fluxionref01_Of.f (k : Nat) (a0 : Int) : Option (List Int) := (fluxionref01_short.f k (([(a0) % 4294967296, (a0 / 4294967296) % 4294967296] : List Int))).bind fun t727 => (some t727)
theorem fluxionref01_Of.mono : ∀ a0 k, LeO (fluxionref01_Of.f k a0) (fluxionref01_Of.f (k + 1) a0) := by
  intro a0 k
  unfold fluxionref01_Of.f
  repeat' first
      | (with_reducible exact fluxionref01_short.mono _ _)
      | (with_reducible exact LeO.refl _)
      | (with_reducible exact LeO.none _)
      | (with_reducible refine LeO.ite ?_ ?_)
      | (with_reducible refine LeO.bind ?_ (fun _ => ?_))
      | exact fluxionref01_short.mono _ _
      | exact LeO.none _
      | refine LeO.ite ?_ ?_
      | refine LeO.bind ?_ (fun _ => ?_)
def nat_Small.f (k : Nat) (l0 : List Int) : Option (Int × Int) := (nat_form.f k (([l0] : List (List Int)))).bind fun t733 => (if t733 = 0 then (if (l0.length : Int) > 2 then (some (0, 4)) else (if (l0.length : Int) = 2 then (if 1 < (l0.length : Int) then (if (l0.length : Int) > 0 then (if 0 < (l0.length : Int) then (some (Go.bits .or .u64 (IntKind.u64.wrap ((IntKind.u64.wrap (rd l0 1)) * 4294967296)) (IntKind.u64.wrap (rd l0 0)), 0)) else (none)) else (some (IntKind.u64.wrap (rd l0 1), 0))) else (none)) else (if (l0.length : Int) > 0 then (if 0 < (l0.length : Int) then (some (Go.bits .or .u64 (0 * 4294967296) (IntKind.u64.wrap (rd l0 0)), 0)) else (none)) else (some (0, 0))))) else (some (0, t733)))
theorem nat_Small.mono : ∀ a0 k, LeO (nat_Small.f k a0) (nat_Small.f (k + 1) a0) := by
  intro a0 k
  unfold nat_Small.f
  repeat' first
      | (with_reducible exact nat_form.mono _ _)
      | (with_reducible exact LeO.refl _)
      | (with_reducible exact LeO.none _)
      | (with_reducible refine LeO.ite ?_ ?_)
      | (with_reducible refine LeO.bind ?_ (fun _ => ?_))
      | exact nat_form.mono _ _
      | exact LeO.none _
      | refine LeO.ite ?_ ?_
      | refine LeO.bind ?_ (fun _ => ?_)
def fluxionref01_Small.l0 : Nat → List Int → Int → Int → Option (Int × Bool)
  | 0, _, _, _ => none
  | k + 1, x0, x4, x5 => if x5 ≥ 0 then (if 0 ≤ x5 then (if x5 < (x0.length : Int) then (fluxionref01_Small.l0 k x0 (Go.bits .or .u64 (IntKind.u64.wrap (x4 * 4294967296)) (IntKind.u64.wrap (rd x0 x5))) (wrap64 (x5 - 1))) else (none)) else (none)) else (some (x4, true))
def fluxionref01_Small.f (k : Nat) (l0 : List Int) : Option (Int × Bool) := if (l0.length : Int) > 2 then (some (0, false)) else (fluxionref01_Small.l0 k l0 0 (wrap64 ((l0.length : Int) - 1)))
theorem fluxionref01_Small.mono_l : ∀ k, (∀ y0 y1 y2, LeO (fluxionref01_Small.l0 k y0 y1 y2) (fluxionref01_Small.l0 (k + 1) y0 y1 y2))
  | 0 => fun _ _ _ r h => by simp [fluxionref01_Small.l0] at h
  | k + 1 => by
    have ih0 := fluxionref01_Small.mono_l k
    · intro y0 y1 y2
      unfold fluxionref01_Small.l0
      repeat' first
      | (with_reducible exact ih0 _ _ _)
      | (with_reducible exact LeO.refl _)
      | (with_reducible exact LeO.none _)
      | (with_reducible refine LeO.ite ?_ ?_)
      | (with_reducible refine LeO.bind ?_ (fun _ => ?_))
      | exact ih0 _ _ _
      | exact LeO.none _
      | refine LeO.ite ?_ ?_
      | refine LeO.bind ?_ (fun _ => ?_)
theorem fluxionref01_Small.mono : ∀ a0 k, LeO (fluxionref01_Small.f k a0) (fluxionref01_Small.f (k + 1) a0) := by
  intro a0 k
  have ih0 := fluxionref01_Small.mono_l k
  unfold fluxionref01_Small.f
  repeat' first
      | (with_reducible exact ih0 _ _ _)
      | (with_reducible exact LeO.refl _)
      | (with_reducible exact LeO.none _)
      | (with_reducible refine LeO.ite ?_ ?_)
      | (with_reducible refine LeO.bind ?_ (fun _ => ?_))
      | exact ih0 _ _ _
      | exact LeO.none _
      | refine LeO.ite ?_ ?_
      | refine LeO.bind ?_ (fun _ => ?_)
def bits_Len64.f (_k : Nat) (a0 : Int) : Option (Int) := if 0 ≤ a0 then (if a0 ≤ 18446744073709551615 then (some (blen a0)) else (none)) else (none)
theorem bits_Len64.mono : ∀ a0 k, LeO (bits_Len64.f k a0) (bits_Len64.f (k + 1) a0) := fun _ _ _ h => h
def bits_Len.f (k : Nat) (a0 : Int) : Option (Int) := (bits_Len64.f k a0).bind fun t1011 => (some t1011)
theorem bits_Len.mono : ∀ a0 k, LeO (bits_Len.f k a0) (bits_Len.f (k + 1) a0) := by
  intro a0 k
  unfold bits_Len.f
  repeat' first
      | (with_reducible exact bits_Len64.mono _ _)
      | (with_reducible exact LeO.refl _)
      | (with_reducible exact LeO.none _)
      | (with_reducible refine LeO.ite ?_ ?_)
      | (with_reducible refine LeO.bind ?_ (fun _ => ?_))
      | exact bits_Len64.mono _ _
      | exact LeO.none _
      | refine LeO.ite ?_ ?_
      | refine LeO.bind ?_ (fun _ => ?_)
mutual
def nat_Power.j0 : Nat → List Int → Int → Bool → Option (List Int × Int)
  | 0, _, _, _ => none
  | k + 1, x0, x1, x16 => if x16 = true then (some (([] : List Int), 2)) else ((nat_size.f x0).bind fun t1016 => (if (wrap64 (t1016 * x1)) > 16384 then (some (([] : List Int), 8)) else ((bits_Len.f k (IntKind.u64.wrap (x1))).bind fun t1020 => (nat_Power.l0 k x0 x1 (([1] : List Int)) (wrap64 (t1020 - 1))))))
def nat_Power.l0 : Nat → List Int → Int → List Int → Int → Option (List Int × Int)
  | 0, _, _, _, _ => none
  | k + 1, x0, x1, x7, x8 => if x8 ≥ 0 then ((nat_mul.f k x7 x7).bind fun t1021 => (if 0 ≤ x8 then (if (Go.bits .and .i64 (shr .i64 x1 x8) 1) = 1 then ((nat_mul.f k t1021 x0).bind fun t1024 => (nat_Power.l0 k x0 x1 t1024 (wrap64 (x8 - 1)))) else (nat_Power.l0 k x0 x1 t1021 (wrap64 (x8 - 1)))) else (none))) else (some (x7, 0))
end
def nat_Power.f (k : Nat) (l0 : List Int) (a1 : Int) : Option (List Int × Int) := (nat_form.f k (([l0] : List (List Int)))).bind fun t1015 => (if t1015 = 0 then (if a1 < 0 then (nat_Power.j0 k l0 a1 true) else (nat_Power.j0 k l0 a1 (decide (a1 > 1000)))) else (some (([] : List Int), t1015)))
theorem nat_Power.mono_l : ∀ k, (∀ y0 y1 y2, LeO (nat_Power.j0 k y0 y1 y2) (nat_Power.j0 (k + 1) y0 y1 y2)) ∧ (∀ y0 y1 y2 y3, LeO (nat_Power.l0 k y0 y1 y2 y3) (nat_Power.l0 (k + 1) y0 y1 y2 y3))
  | 0 => ⟨fun _ _ _ r h => by simp [nat_Power.j0] at h, fun _ _ _ _ r h => by simp [nat_Power.l0] at h⟩
  | k + 1 => by
    obtain ⟨ih0, ih1⟩ := nat_Power.mono_l k
    refine ⟨?_, ?_⟩
    · intro y0 y1 y2
      unfold nat_Power.j0
      repeat' first
      | (with_reducible exact ih0 _ _ _)
      | (with_reducible exact ih1 _ _ _ _)
      | (with_reducible exact bits_Len.mono _ _)
      | (with_reducible exact nat_form.mono _ _)
      | (with_reducible exact nat_mul.mono _ _ _)
      | (with_reducible exact LeO.refl _)
      | (with_reducible exact LeO.none _)
      | (with_reducible refine LeO.ite ?_ ?_)
      | (with_reducible refine LeO.bind ?_ (fun _ => ?_))
      | exact ih0 _ _ _
      | exact ih1 _ _ _ _
      | exact bits_Len.mono _ _
      | exact nat_form.mono _ _
      | exact nat_mul.mono _ _ _
      | exact LeO.none _
      | refine LeO.ite ?_ ?_
      | refine LeO.bind ?_ (fun _ => ?_)
    · intro y0 y1 y2 y3
      unfold nat_Power.l0
      repeat' first
      | (with_reducible exact ih0 _ _ _)
      | (with_reducible exact ih1 _ _ _ _)
      | (with_reducible exact bits_Len.mono _ _)
      | (with_reducible exact nat_form.mono _ _)
      | (with_reducible exact nat_mul.mono _ _ _)
      | (with_reducible exact LeO.refl _)
      | (with_reducible exact LeO.none _)
      | (with_reducible refine LeO.ite ?_ ?_)
      | (with_reducible refine LeO.bind ?_ (fun _ => ?_))
      | exact ih0 _ _ _
      | exact ih1 _ _ _ _
      | exact bits_Len.mono _ _
      | exact nat_form.mono _ _
      | exact nat_mul.mono _ _ _
      | exact LeO.none _
      | refine LeO.ite ?_ ?_
      | refine LeO.bind ?_ (fun _ => ?_)
theorem nat_Power.mono : ∀ a0 a1 k, LeO (nat_Power.f k a0 a1) (nat_Power.f (k + 1) a0 a1) := by
  intro a0 a1 k
  obtain ⟨ih0, ih1⟩ := nat_Power.mono_l k
  unfold nat_Power.f
  repeat' first
      | (with_reducible exact ih0 _ _ _)
      | (with_reducible exact ih1 _ _ _ _)
      | (with_reducible exact bits_Len.mono _ _)
      | (with_reducible exact nat_form.mono _ _)
      | (with_reducible exact nat_mul.mono _ _ _)
      | (with_reducible exact LeO.refl _)
      | (with_reducible exact LeO.none _)
      | (with_reducible refine LeO.ite ?_ ?_)
      | (with_reducible refine LeO.bind ?_ (fun _ => ?_))
      | exact ih0 _ _ _
      | exact ih1 _ _ _ _
      | exact bits_Len.mono _ _
      | exact nat_form.mono _ _
      | exact nat_mul.mono _ _ _
      | exact LeO.none _
      | refine LeO.ite ?_ ?_
      | refine LeO.bind ?_ (fun _ => ?_)
def fluxionref01_Power.l0 : Nat → List Int → Int → List Int → Int → Option (List Int)
  | 0, _, _, _, _ => none
  | k + 1, x0, x1, x5, x6 => if x6 < x1 then ((fluxionref01_Mul.f k x5 x0).bind fun t1030 => (fluxionref01_Power.l0 k x0 x1 t1030 (wrap64 (x6 + 1)))) else (some x5)
def fluxionref01_Power.f (k : Nat) (l0 : List Int) (a1 : Int) : Option (List Int) := fluxionref01_Power.l0 k l0 a1 (([1] : List Int)) 0
theorem fluxionref01_Power.mono_l : ∀ k, (∀ y0 y1 y2 y3, LeO (fluxionref01_Power.l0 k y0 y1 y2 y3) (fluxionref01_Power.l0 (k + 1) y0 y1 y2 y3))
  | 0 => fun _ _ _ _ r h => by simp [fluxionref01_Power.l0] at h
  | k + 1 => by
    have ih0 := fluxionref01_Power.mono_l k
    · intro y0 y1 y2 y3
      unfold fluxionref01_Power.l0
      repeat' first
      | (with_reducible exact ih0 _ _ _ _)
      | (with_reducible exact fluxionref01_Mul.mono _ _ _)
      | (with_reducible exact LeO.refl _)
      | (with_reducible exact LeO.none _)
      | (with_reducible refine LeO.ite ?_ ?_)
      | (with_reducible refine LeO.bind ?_ (fun _ => ?_))
      | exact ih0 _ _ _ _
      | exact fluxionref01_Mul.mono _ _ _
      | exact LeO.none _
      | refine LeO.ite ?_ ?_
      | refine LeO.bind ?_ (fun _ => ?_)
theorem fluxionref01_Power.mono : ∀ a0 a1 k, LeO (fluxionref01_Power.f k a0 a1) (fluxionref01_Power.f (k + 1) a0 a1) := by
  intro a0 a1 k
  have ih0 := fluxionref01_Power.mono_l k
  unfold fluxionref01_Power.f
  repeat' first
      | (with_reducible exact ih0 _ _ _ _)
      | (with_reducible exact fluxionref01_Mul.mono _ _ _)
      | (with_reducible exact LeO.refl _)
      | (with_reducible exact LeO.none _)
      | (with_reducible refine LeO.ite ?_ ?_)
      | (with_reducible refine LeO.bind ?_ (fun _ => ?_))
      | exact ih0 _ _ _ _
      | exact fluxionref01_Mul.mono _ _ _
      | exact LeO.none _
      | refine LeO.ite ?_ ?_
      | refine LeO.bind ?_ (fun _ => ?_)

end Go.Proofs.Ytceglknbonfdeaa.PNat
