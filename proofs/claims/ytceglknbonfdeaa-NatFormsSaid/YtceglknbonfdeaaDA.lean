-- Printed by a program for this claim (wip/myprint.sh, wip/patchprint.py, wip/regroup.py)
import Derived.Lib.BitFns
import Derived.Test.YtceglknbonfdeaaWWords
import Derived.Test.YtceglknbonfdeaaWLast
import Derived.Test.YtceglknbonfdeaaWMore
namespace Go.Proofs.Ytceglknbonfdeaa.PNat
open Go.RowKit Go.Proofs.YtceglknbonfdeaaW.PrintWords Go.Proofs.YtceglknbonfdeaaW.PrintLast Go.Proofs.YtceglknbonfdeaaW.PrintMore
set_option linter.unusedVariables false
set_option linter.unusedSimpArgs false

def rd_L1 (xs : List (List Int)) (i : Int) : (List Int) := xs.getD i.toNat ([] : List Int)

def fluxionlaw01_cut.f (l0 : List Int) (a1 : Int) : Option (List Int) := (some (([] : List Int) : List Int)).bind fun y101 => (if 0 ≤ (mn (l0.length : Int) a1) then (if (mn (l0.length : Int) a1) ≤ (l0.length : Int) then (if y101.length + (l0.take ((mn (l0.length : Int) a1) : Int).toNat).length < 35184372088832 then (some (y101 ++ (l0.take ((mn (l0.length : Int) a1) : Int).toNat))) else (none)) else (none)) else (none))
def nat_form.l0 : Nat → List (List Int) → Int → Int → Option (Int)
  | 0, _, _, _ => none
  | k + 1, x5, x6, x7 => if x7 < x6 then (if 0 ≤ x7 then (if x7 < (x5.length : Int) then (if ((rd_L1 x5 x7).length : Int) > 512 then (some 3) else (if ((rd_L1 x5 x7).length : Int) > 0 then (if 0 ≤ (wrap64 (((rd_L1 x5 x7).length : Int) - 1)) then (if (wrap64 (((rd_L1 x5 x7).length : Int) - 1)) < ((rd_L1 x5 x7).length : Int) then (if (rd (rd_L1 x5 x7) (wrap64 (((rd_L1 x5 x7).length : Int) - 1))) = 0 then (some 5) else (nat_form.l0 k x5 x6 (wrap64 (x7 + 1)))) else (none)) else (none)) else (nat_form.l0 k x5 x6 (wrap64 (x7 + 1))))) else (none)) else (none)) else (some 0)
def nat_form.f (k : Nat) (l0 : List (List Int)) : Option (Int) := nat_form.l0 k l0 (l0.length : Int) 0
theorem nat_form.mono_l : ∀ k, (∀ y0 y1 y2, LeO (nat_form.l0 k y0 y1 y2) (nat_form.l0 (k + 1) y0 y1 y2))
  | 0 => fun _ _ _ r h => by simp [nat_form.l0] at h
  | k + 1 => by
    have ih0 := nat_form.mono_l k
    · intro y0 y1 y2
      unfold nat_form.l0
      repeat' first
      | (with_reducible exact ih0 _ _ _)
      | (with_reducible exact LeO.refl _)
      | (with_reducible exact LeO.none _)
      | (with_reducible refine LeO.ite ?_ ?_)
      | (with_reducible refine LeO.bind ?_ (fun _ => ?_))
      | exact ih0 _ _ _
      | exact LeO.none _
      | refine LeO.ite ?_ ?_
      | refine LeO.bind ?_ (fun _ => ?_)
theorem nat_form.mono : ∀ a0 k, LeO (nat_form.f k a0) (nat_form.f (k + 1) a0) := by
  intro a0 k
  have ih0 := nat_form.mono_l k
  unfold nat_form.f
  repeat' first
      | (with_reducible exact ih0 _ _ _)
      | (with_reducible exact LeO.refl _)
      | (with_reducible exact LeO.none _)
      | (with_reducible refine LeO.ite ?_ ?_)
      | (with_reducible refine LeO.bind ?_ (fun _ => ?_))
      | exact ih0 _ _ _
      | exact LeO.none _
      | refine LeO.ite ?_ ?_
      | refine LeO.bind ?_ (fun _ => ?_)
def nat_trim.l0 : Nat → List Int → Option (List Int)
  | 0, _ => none
  | k + 1, x0 => if (x0.length : Int) > 0 then (if 0 ≤ (wrap64 ((x0.length : Int) - 1)) then (if (wrap64 ((x0.length : Int) - 1)) < (x0.length : Int) then (if (rd x0 (wrap64 ((x0.length : Int) - 1))) = 0 then (if (wrap64 ((x0.length : Int) - 1)) ≤ (x0.length : Int) then (nat_trim.l0 k (x0.take ((wrap64 ((x0.length : Int) - 1)) : Int).toNat)) else (none)) else (some x0)) else (none)) else (none)) else (some x0)
def nat_trim.f (k : Nat) (l0 : List Int) : Option (List Int) := nat_trim.l0 k l0
theorem nat_trim.mono_l : ∀ k, (∀ y0, LeO (nat_trim.l0 k y0) (nat_trim.l0 (k + 1) y0))
  | 0 => fun _ r h => by simp [nat_trim.l0] at h
  | k + 1 => by
    have ih0 := nat_trim.mono_l k
    · intro y0
      unfold nat_trim.l0
      repeat' first
      | (with_reducible exact ih0 _)
      | (with_reducible exact LeO.refl _)
      | (with_reducible exact LeO.none _)
      | (with_reducible refine LeO.ite ?_ ?_)
      | (with_reducible refine LeO.bind ?_ (fun _ => ?_))
      | exact ih0 _
      | exact LeO.none _
      | refine LeO.ite ?_ ?_
      | refine LeO.bind ?_ (fun _ => ?_)
theorem nat_trim.mono : ∀ a0 k, LeO (nat_trim.f k a0) (nat_trim.f (k + 1) a0) := by
  intro a0 k
  have ih0 := nat_trim.mono_l k
  unfold nat_trim.f
  repeat' first
      | (with_reducible exact ih0 _)
      | (with_reducible exact LeO.refl _)
      | (with_reducible exact LeO.none _)
      | (with_reducible refine LeO.ite ?_ ?_)
      | (with_reducible refine LeO.bind ?_ (fun _ => ?_))
      | exact ih0 _
      | exact LeO.none _
      | refine LeO.ite ?_ ?_
      | refine LeO.bind ?_ (fun _ => ?_)
def nat_right.l0 : Nat → Int → List Int → List Int → Int → Int → Option (List Int)
  | 0, _, _, _, _, _ => none
  | k + 1, x1, x5, x11, x12, x13 => if x13 < x12 then (if 0 ≤ x13 then (if x13 < (x11.length : Int) then (if x13 < (x5.length : Int) then (if 0 ≤ x1 then ((some (x5.set (x13 : Int).toNat (Go.bits .or .u32 (rd x5 x13) (shr .u32 (rd x11 x13) x1)) : List Int)).bind fun y121 => (if x13 > 0 then (if 0 ≤ (wrap64 (x13 - 1)) then (if (wrap64 (x13 - 1)) < (x5.length : Int) then (nat_right.l0 k x1 (y121.set ((wrap64 (x13 - 1)) : Int).toNat (Go.bits .or .u32 (rd y121 (wrap64 (x13 - 1))) ((shr .u64 (IntKind.u64.wrap ((IntKind.u64.wrap (rd x11 x13)) * 4294967296)) x1) % 4294967296))) x11 x12 (wrap64 (x13 + 1))) else (none)) else (none)) else (nat_right.l0 k x1 y121 x11 x12 (wrap64 (x13 + 1))))) else (none)) else (none)) else (none)) else (none)) else ((nat_trim.f k x5).bind fun t124 => (some t124))
def nat_right.f (k : Nat) (l0 : List Int) (a1 : Int) : Option (List Int) := if 0 ≤ (l0.length : Int) then (if ((l0.length : Int) : Int).toNat ≤ 70368744177664 then (nat_right.l0 k a1 (List.replicate ((l0.length : Int) : Int).toNat 0) l0 (l0.length : Int) 0) else (none)) else (none)
theorem nat_right.mono_l : ∀ k, (∀ y0 y1 y2 y3 y4, LeO (nat_right.l0 k y0 y1 y2 y3 y4) (nat_right.l0 (k + 1) y0 y1 y2 y3 y4))
  | 0 => fun _ _ _ _ _ r h => by simp [nat_right.l0] at h
  | k + 1 => by
    have ih0 := nat_right.mono_l k
    · intro y0 y1 y2 y3 y4
      unfold nat_right.l0
      repeat' first
      | (with_reducible exact ih0 _ _ _ _ _)
      | (with_reducible exact nat_trim.mono _ _)
      | (with_reducible exact LeO.refl _)
      | (with_reducible exact LeO.none _)
      | (with_reducible refine LeO.ite ?_ ?_)
      | (with_reducible refine LeO.bind ?_ (fun _ => ?_))
      | exact ih0 _ _ _ _ _
      | exact nat_trim.mono _ _
      | exact LeO.none _
      | refine LeO.ite ?_ ?_
      | refine LeO.bind ?_ (fun _ => ?_)
theorem nat_right.mono : ∀ a0 a1 k, LeO (nat_right.f k a0 a1) (nat_right.f (k + 1) a0 a1) := by
  intro a0 a1 k
  have ih0 := nat_right.mono_l k
  unfold nat_right.f
  repeat' first
      | (with_reducible exact ih0 _ _ _ _ _)
      | (with_reducible exact nat_trim.mono _ _)
      | (with_reducible exact LeO.refl _)
      | (with_reducible exact LeO.none _)
      | (with_reducible refine LeO.ite ?_ ?_)
      | (with_reducible refine LeO.bind ?_ (fun _ => ?_))
      | exact ih0 _ _ _ _ _
      | exact nat_trim.mono _ _
      | exact LeO.none _
      | refine LeO.ite ?_ ?_
      | refine LeO.bind ?_ (fun _ => ?_)
def nat_compare.l0 : Nat → List Int → List Int → Int → Option (Int)
  | 0, _, _, _ => none
  | k + 1, x0, x1, x5 => if x5 ≥ 0 then (if 0 ≤ x5 then (if x5 < (x0.length : Int) then (if x5 < (x1.length : Int) then (if (rd x0 x5) = (rd x1 x5) then (nat_compare.l0 k x0 x1 (wrap64 (x5 - 1))) else (if (rd x0 x5) < (rd x1 x5) then (some (-1)) else (some 1))) else (none)) else (none)) else (none)) else (some 0)
def nat_compare.f (k : Nat) (l0 : List Int) (l1 : List Int) : Option (Int) := if (l0.length : Int) < (l1.length : Int) then (some (-1)) else (if (l0.length : Int) > (l1.length : Int) then (some 1) else (nat_compare.l0 k l0 l1 (wrap64 ((l0.length : Int) - 1))))
theorem nat_compare.mono_l : ∀ k, (∀ y0 y1 y2, LeO (nat_compare.l0 k y0 y1 y2) (nat_compare.l0 (k + 1) y0 y1 y2))
  | 0 => fun _ _ _ r h => by simp [nat_compare.l0] at h
  | k + 1 => by
    have ih0 := nat_compare.mono_l k
    · intro y0 y1 y2
      unfold nat_compare.l0
      repeat' first
      | (with_reducible exact ih0 _ _ _)
      | (with_reducible exact LeO.refl _)
      | (with_reducible exact LeO.none _)
      | (with_reducible refine LeO.ite ?_ ?_)
      | (with_reducible refine LeO.bind ?_ (fun _ => ?_))
      | exact ih0 _ _ _
      | exact LeO.none _
      | refine LeO.ite ?_ ?_
      | refine LeO.bind ?_ (fun _ => ?_)
theorem nat_compare.mono : ∀ a0 a1 k, LeO (nat_compare.f k a0 a1) (nat_compare.f (k + 1) a0 a1) := by
  intro a0 a1 k
  have ih0 := nat_compare.mono_l k
  unfold nat_compare.f
  repeat' first
      | (with_reducible exact ih0 _ _ _)
      | (with_reducible exact LeO.refl _)
      | (with_reducible exact LeO.none _)
      | (with_reducible refine LeO.ite ?_ ?_)
      | (with_reducible refine LeO.bind ?_ (fun _ => ?_))
      | exact ih0 _ _ _
      | exact LeO.none _
      | refine LeO.ite ?_ ?_
      | refine LeO.bind ?_ (fun _ => ?_)
def slices_Clone_uint32_uint32.f (l0 : List Int) : Option (List Int) := (some (([] : List Int) : List Int)).bind fun y131 => (if y131.length + l0.length < 35184372088832 then (some (y131 ++ l0)) else (none))
def nat_short.l0 : Nat → List Int → Int → List Int → Int → Int → Option (List Int × Int)
  | 0, _, _, _, _, _ => none
  | k + 1, x0, x1, x6, x7, x8 => if x8 ≥ 0 then (if 0 ≤ x8 then (if x8 < (x0.length : Int) then (if (IntKind.u64.wrap (x1)) = 0 then (none) else (if x8 < (x6.length : Int) then (nat_short.l0 k x0 x1 (x6.set (x8 : Int).toNat ((IntKind.u64.wrap (Int.tdiv (Go.bits .or .u64 (IntKind.u64.wrap (x7 * 4294967296)) (IntKind.u64.wrap (rd x0 x8))) (IntKind.u64.wrap (x1)))) % 4294967296)) (Int.tmod (Go.bits .or .u64 (IntKind.u64.wrap (x7 * 4294967296)) (IntKind.u64.wrap (rd x0 x8))) (IntKind.u64.wrap (x1))) (wrap64 (x8 - 1))) else (none))) else (none)) else (none)) else ((nat_trim.f k x6).bind fun t142 => (some (t142, (x7) % 4294967296)))
def nat_short.f (k : Nat) (l0 : List Int) (a1 : Int) : Option (List Int × Int) := if 0 ≤ (l0.length : Int) then (if ((l0.length : Int) : Int).toNat ≤ 70368744177664 then (nat_short.l0 k l0 a1 (List.replicate ((l0.length : Int) : Int).toNat 0) 0 (wrap64 ((l0.length : Int) - 1))) else (none)) else (none)
theorem nat_short.mono_l : ∀ k, (∀ y0 y1 y2 y3 y4, LeO (nat_short.l0 k y0 y1 y2 y3 y4) (nat_short.l0 (k + 1) y0 y1 y2 y3 y4))
  | 0 => fun _ _ _ _ _ r h => by simp [nat_short.l0] at h
  | k + 1 => by
    have ih0 := nat_short.mono_l k
    · intro y0 y1 y2 y3 y4
      unfold nat_short.l0
      repeat' first
      | (with_reducible exact ih0 _ _ _ _ _)
      | (with_reducible exact nat_trim.mono _ _)
      | (with_reducible exact LeO.refl _)
      | (with_reducible exact LeO.none _)
      | (with_reducible refine LeO.ite ?_ ?_)
      | (with_reducible refine LeO.bind ?_ (fun _ => ?_))
      | exact ih0 _ _ _ _ _
      | exact nat_trim.mono _ _
      | exact LeO.none _
      | refine LeO.ite ?_ ?_
      | refine LeO.bind ?_ (fun _ => ?_)
theorem nat_short.mono : ∀ a0 a1 k, LeO (nat_short.f k a0 a1) (nat_short.f (k + 1) a0 a1) := by
  intro a0 a1 k
  have ih0 := nat_short.mono_l k
  unfold nat_short.f
  repeat' first
      | (with_reducible exact ih0 _ _ _ _ _)
      | (with_reducible exact nat_trim.mono _ _)
      | (with_reducible exact LeO.refl _)
      | (with_reducible exact LeO.none _)
      | (with_reducible refine LeO.ite ?_ ?_)
      | (with_reducible refine LeO.bind ?_ (fun _ => ?_))
      | exact ih0 _ _ _ _ _
      | exact nat_trim.mono _ _
      | exact LeO.none _
      | refine LeO.ite ?_ ?_
      | refine LeO.bind ?_ (fun _ => ?_)
def blen (x : Int) : Int := (Lib.bitLen x.toNat : Nat)
def bits_Len32.f (a0 : Int) : Option (Int) := if 0 ≤ a0 then (if a0 ≤ 4294967295 then (some (blen a0)) else (none)) else (none)
def bits_LeadingZeros32.f (a0 : Int) : Option (Int) := (bits_Len32.f a0).bind fun t145 => (some (wrap64 (32 - t145)))
def nat_left.l0 : Nat → Int → List Int → List Int → Int → Int → Option (List Int)
  | 0, _, _, _, _, _ => none
  | k + 1, x1, x5, x13, x14, x15 => if x15 < x14 then (if 0 ≤ x15 then (if x15 < (x13.length : Int) then (if 0 ≤ x1 then (if x15 < (x5.length : Int) then (if 0 ≤ (wrap64 (x15 + 1)) then (if (wrap64 (x15 + 1)) < (x5.length : Int) then (nat_left.l0 k x1 ((x5.set (x15 : Int).toNat (Go.bits .or .u32 (rd x5 x15) ((shl .u64 (IntKind.u64.wrap (rd x13 x15)) x1) % 4294967296))).set ((wrap64 (x15 + 1)) : Int).toNat (((shl .u64 (IntKind.u64.wrap (rd x13 x15)) x1) / 4294967296) % 4294967296)) x13 x14 (wrap64 (x15 + 1))) else (none)) else (none)) else (none)) else (none)) else (none)) else (none)) else (some x5)
def nat_left.f (k : Nat) (l0 : List Int) (a1 : Int) : Option (List Int) := if 0 ≤ (wrap64 ((l0.length : Int) + 1)) then (if (wrap64 ((l0.length : Int) + 1) : Int).toNat ≤ 70368744177664 then (nat_left.l0 k a1 (List.replicate (wrap64 ((l0.length : Int) + 1) : Int).toNat 0) l0 (l0.length : Int) 0) else (none)) else (none)
theorem nat_left.mono_l : ∀ k, (∀ y0 y1 y2 y3 y4, LeO (nat_left.l0 k y0 y1 y2 y3 y4) (nat_left.l0 (k + 1) y0 y1 y2 y3 y4))
  | 0 => fun _ _ _ _ _ r h => by simp [nat_left.l0] at h
  | k + 1 => by
    have ih0 := nat_left.mono_l k
    · intro y0 y1 y2 y3 y4
      unfold nat_left.l0
      repeat' first
      | (with_reducible exact ih0 _ _ _ _ _)
      | (with_reducible exact LeO.refl _)
      | (with_reducible exact LeO.none _)
      | (with_reducible refine LeO.ite ?_ ?_)
      | (with_reducible refine LeO.bind ?_ (fun _ => ?_))
      | exact ih0 _ _ _ _ _
      | exact LeO.none _
      | refine LeO.ite ?_ ?_
      | refine LeO.bind ?_ (fun _ => ?_)
theorem nat_left.mono : ∀ a0 a1 k, LeO (nat_left.f k a0 a1) (nat_left.f (k + 1) a0 a1) := by
  intro a0 a1 k
  have ih0 := nat_left.mono_l k
  unfold nat_left.f
  repeat' first
      | (with_reducible exact ih0 _ _ _ _ _)
      | (with_reducible exact LeO.refl _)
      | (with_reducible exact LeO.none _)
      | (with_reducible refine LeO.ite ?_ ?_)
      | (with_reducible refine LeO.bind ?_ (fun _ => ?_))
      | exact ih0 _ _ _ _ _
      | exact LeO.none _
      | refine LeO.ite ?_ ?_
      | refine LeO.bind ?_ (fun _ => ?_)
def nat_at.f (l0 : List Int) (a1 : Int) : Option (Int) := if a1 < (l0.length : Int) then (if 0 ≤ a1 then (some (IntKind.u64.wrap (rd l0 a1))) else (none)) else (some 0)
def nat_take.l0 : Nat → List Int → List Int → Int → Int → Int → Int → Int → Option (Bool × List Int)
  | 0, _, _, _, _, _, _, _ => none
  | k + 1, x0, x1, x2, x7, x8, x12, x13 => if x13 < x12 then ((nat_at.f x1 x13).bind fun t148 => (if 0 ≤ x13 then (if x13 < (x0.length : Int) then (nat_take.l0 k (x0.set (x13 : Int).toNat ((IntKind.u64.wrap ((IntKind.u64.wrap ((IntKind.u64.wrap (rd x0 x13)) - (Go.bits .and .u64 (IntKind.u64.wrap (x7 + (IntKind.u64.wrap (x2 * t148)))) 4294967295))) - x8)) % 4294967296)) x1 x2 ((IntKind.u64.wrap (x7 + (IntKind.u64.wrap (x2 * t148)))) / 4294967296) ((IntKind.u64.wrap ((IntKind.u64.wrap ((IntKind.u64.wrap (rd x0 x13)) - (Go.bits .and .u64 (IntKind.u64.wrap (x7 + (IntKind.u64.wrap (x2 * t148)))) 4294967295))) - x8)) / 9223372036854775808) x12 (wrap64 (x13 + 1))) else (none)) else (none))) else (some ((x8 == 0), x0))
def nat_take.f (k : Nat) (l0 : List Int) (l1 : List Int) (a2 : Int) (lo : Int) (hi : Int) : Option (Bool × List Int) := if 0 ≤ lo then (if lo < hi then (if hi ≤ (l0.length : Int) then ((nat_take.l0 k ((l0.take hi.toNat).drop lo.toNat) l1 a2 0 0 (((l0.take hi.toNat).drop lo.toNat).length : Int) 0).map fun p => (p.1, l0.take lo.toNat ++ p.2 ++ l0.drop hi.toNat)) else (none)) else (none)) else (none)
theorem nat_take.mono_l : ∀ k, (∀ y0 y1 y2 y3 y4 y5 y6, LeO (nat_take.l0 k y0 y1 y2 y3 y4 y5 y6) (nat_take.l0 (k + 1) y0 y1 y2 y3 y4 y5 y6))
  | 0 => fun _ _ _ _ _ _ _ r h => by simp [nat_take.l0] at h
  | k + 1 => by
    have ih0 := nat_take.mono_l k
    · intro y0 y1 y2 y3 y4 y5 y6
      unfold nat_take.l0
      repeat' first
      | (with_reducible exact ih0 _ _ _ _ _ _ _)
      | (with_reducible exact LeO.refl _)
      | (with_reducible exact LeO.none _)
      | (with_reducible refine LeO.ite ?_ ?_)
      | (with_reducible refine LeO.bind ?_ (fun _ => ?_))
      | exact ih0 _ _ _ _ _ _ _
      | exact LeO.none _
      | refine LeO.ite ?_ ?_
      | refine LeO.bind ?_ (fun _ => ?_)
theorem nat_take.mono : ∀ a0 a1 a2 a3 a4 k, LeO (nat_take.f k a0 a1 a2 a3 a4) (nat_take.f (k + 1) a0 a1 a2 a3 a4) := by
  intro a0 a1 a2 a3 a4 k
  have ih0 := nat_take.mono_l k
  unfold nat_take.f
  exact LeO.ite (LeO.ite (LeO.ite (LeO.map _ (ih0 _ _ _ _ _ _ _)) (LeO.none _)) (LeO.none _)) (LeO.none _)
def nat_give.l0 : Nat → List Int → List Int → Int → Int → Int → Option (List Int)
  | 0, _, _, _, _, _ => none
  | k + 1, x0, x1, x4, x7, x8 => if x8 < x7 then (if 0 ≤ x8 then (if x8 < (x0.length : Int) then ((nat_at.f x1 x8).bind fun t152 => (nat_give.l0 k (x0.set (x8 : Int).toNat ((IntKind.u64.wrap (x4 + (IntKind.u64.wrap ((IntKind.u64.wrap (rd x0 x8)) + t152)))) % 4294967296)) x1 ((IntKind.u64.wrap (x4 + (IntKind.u64.wrap ((IntKind.u64.wrap (rd x0 x8)) + t152)))) / 4294967296) x7 (wrap64 (x8 + 1)))) else (none)) else (none)) else (some x0)
def nat_give.f (k : Nat) (l0 : List Int) (l1 : List Int) (lo : Int) (hi : Int) : Option (List Int) := if 0 ≤ lo then (if lo ≤ hi then (if hi ≤ (l0.length : Int) then ((nat_give.l0 k ((l0.take hi.toNat).drop lo.toNat) l1 0 (((l0.take hi.toNat).drop lo.toNat).length : Int) 0).map fun p => l0.take lo.toNat ++ p ++ l0.drop hi.toNat) else (none)) else (none)) else (none)
theorem nat_give.mono_l : ∀ k, (∀ y0 y1 y2 y3 y4, LeO (nat_give.l0 k y0 y1 y2 y3 y4) (nat_give.l0 (k + 1) y0 y1 y2 y3 y4))
  | 0 => fun _ _ _ _ _ r h => by simp [nat_give.l0] at h
  | k + 1 => by
    have ih0 := nat_give.mono_l k
    · intro y0 y1 y2 y3 y4
      unfold nat_give.l0
      repeat' first
      | (with_reducible exact ih0 _ _ _ _ _)
      | (with_reducible exact LeO.refl _)
      | (with_reducible exact LeO.none _)
      | (with_reducible refine LeO.ite ?_ ?_)
      | (with_reducible refine LeO.bind ?_ (fun _ => ?_))
      | exact ih0 _ _ _ _ _
      | exact LeO.none _
      | refine LeO.ite ?_ ?_
      | refine LeO.bind ?_ (fun _ => ?_)
theorem nat_give.mono : ∀ a0 a1 a3 a4 k, LeO (nat_give.f k a0 a1 a3 a4) (nat_give.f (k + 1) a0 a1 a3 a4) := by
  intro a0 a1 a3 a4 k
  have ih0 := nat_give.mono_l k
  unfold nat_give.f
  exact LeO.ite (LeO.ite (LeO.ite (LeO.map _ (ih0 _ _ _ _ _)) (LeO.none _)) (LeO.none _)) (LeO.none _)
mutual
def nat_div.l0 : Nat → Int → List Int → List Int → Int → List Int → Int → Option (List Int × List Int)
  | 0, _, _, _, _, _, _ => none
  | k + 1, x8, x9, x10, x11, x12, x13 => if x13 ≥ 0 then (if 0 ≤ (wrap64 (x13 + x11)) then (if (wrap64 (x13 + x11)) < (x9.length : Int) then (if 0 ≤ (wrap64 ((wrap64 (x13 + x11)) - 1)) then (if (wrap64 ((wrap64 (x13 + x11)) - 1)) < (x9.length : Int) then (if 0 ≤ (wrap64 (x11 - 1)) then (if (wrap64 (x11 - 1)) < (x10.length : Int) then (if (IntKind.u64.wrap (rd x10 (wrap64 (x11 - 1)))) = 0 then (none) else (nat_div.l1 k x8 x9 x10 x11 x12 x13 (IntKind.u64.wrap (Int.tdiv (Go.bits .or .u64 (IntKind.u64.wrap ((IntKind.u64.wrap (rd x9 (wrap64 (x13 + x11)))) * 4294967296)) (IntKind.u64.wrap (rd x9 (wrap64 ((wrap64 (x13 + x11)) - 1))))) (IntKind.u64.wrap (rd x10 (wrap64 (x11 - 1)))))) (Int.tmod (Go.bits .or .u64 (IntKind.u64.wrap ((IntKind.u64.wrap (rd x9 (wrap64 (x13 + x11)))) * 4294967296)) (IntKind.u64.wrap (rd x9 (wrap64 ((wrap64 (x13 + x11)) - 1))))) (IntKind.u64.wrap (rd x10 (wrap64 (x11 - 1))))))) else (none)) else (none)) else (none)) else (none)) else (none)) else (none)) else ((nat_trim.f k x12).bind fun t189 => ((nat_trim.f k x9).bind fun t192 => ((nat_right.f k t192 x8).bind fun t195 => (some (t189, t195)))))
def nat_div.j3 : Nat → Int → List Int → List Int → Int → List Int → Int → Int → Option (List Int × List Int)
  | 0, _, _, _, _, _, _, _ => none
  | k + 1, x8, x9, x10, x11, x12, x13, x15 => (nat_take.f k x9 x10 x15 x13 (wrap64 ((wrap64 (x13 + x11)) + 1))).bind fun bt205 => (if bt205.1 = true then (if 0 ≤ x13 then (if x13 < (x12.length : Int) then (nat_div.l0 k x8 bt205.2 x10 x11 (x12.set (x13 : Int).toNat ((x15) % 4294967296)) (wrap64 (x13 - 1))) else (none)) else (none)) else ((nat_give.f k bt205.2 x10 x13 (wrap64 ((wrap64 (x13 + x11)) + 1))).bind fun t208 => (if 0 ≤ x13 then (if x13 < (x12.length : Int) then (nat_div.l0 k x8 t208 x10 x11 (x12.set (x13 : Int).toNat ((IntKind.u64.wrap (x15 - 1)) % 4294967296)) (wrap64 (x13 - 1))) else (none)) else (none))))
def nat_div.l1 : Nat → Int → List Int → List Int → Int → List Int → Int → Int → Int → Option (List Int × List Int)
  | 0, _, _, _, _, _, _, _, _ => none
  | k + 1, x8, x9, x10, x11, x12, x13, x15, x16 => if x15 ≥ 4294967296 then (nat_div.j2 k x8 x9 x10 x11 x12 x13 x15 x16 true) else (if 0 ≤ (wrap64 (x11 - 2)) then (if (wrap64 (x11 - 2)) < (x10.length : Int) then (if 0 ≤ (wrap64 ((wrap64 (x13 + x11)) - 2)) then (if (wrap64 ((wrap64 (x13 + x11)) - 2)) < (x9.length : Int) then (nat_div.j2 k x8 x9 x10 x11 x12 x13 x15 x16 (decide ((IntKind.u64.wrap (x15 * (IntKind.u64.wrap (rd x10 (wrap64 (x11 - 2)))))) > (Go.bits .or .u64 (IntKind.u64.wrap (x16 * 4294967296)) (IntKind.u64.wrap (rd x9 (wrap64 ((wrap64 (x13 + x11)) - 2)))))))) else (none)) else (none)) else (none)) else (none))
def nat_div.j2 : Nat → Int → List Int → List Int → Int → List Int → Int → Int → Int → Bool → Option (List Int × List Int)
  | 0, _, _, _, _, _, _, _, _, _ => none
  | k + 1, x8, x9, x10, x11, x12, x13, x15, x16, x122 => if x122 = true then (if 0 ≤ (wrap64 (x11 - 1)) then (if (wrap64 (x11 - 1)) < (x10.length : Int) then (if (IntKind.u64.wrap (x16 + (IntKind.u64.wrap (rd x10 (wrap64 (x11 - 1)))))) ≥ 4294967296 then (nat_div.j3 k x8 x9 x10 x11 x12 x13 (IntKind.u64.wrap (x15 - 1))) else (nat_div.l1 k x8 x9 x10 x11 x12 x13 (IntKind.u64.wrap (x15 - 1)) (IntKind.u64.wrap (x16 + (IntKind.u64.wrap (rd x10 (wrap64 (x11 - 1)))))))) else (none)) else (none)) else (nat_div.j3 k x8 x9 x10 x11 x12 x13 x15)
end
def nat_div.f (k : Nat) (l0 : List Int) (l1 : List Int) : Option (List Int × List Int) := (nat_compare.f k l0 l1).bind fun t160 => (if t160 < 0 then ((slices_Clone_uint32_uint32.f l0).bind fun t161 => (some (([] : List Int), t161))) else (if (l1.length : Int) = 1 then (if 0 < (l1.length : Int) then ((nat_short.f k l0 (rd l1 0)).bind fun bt165 => ((nat_trim.f k (([bt165.2] : List Int))).bind fun t172 => (some (bt165.1, t172)))) else (none)) else (if 0 ≤ (wrap64 ((l1.length : Int) - 1)) then (if (wrap64 ((l1.length : Int) - 1)) < (l1.length : Int) then ((bits_LeadingZeros32.f (rd l1 (wrap64 ((l1.length : Int) - 1)))).bind fun t176 => ((nat_left.f k l0 t176).bind fun t177 => ((nat_left.f k l1 t176).bind fun t180 => ((nat_trim.f k t180).bind fun t183 => (if 0 ≤ (wrap64 ((t177.length : Int) - (t183.length : Int))) then (if (wrap64 ((t177.length : Int) - (t183.length : Int)) : Int).toNat ≤ 70368744177664 then ((some (List.replicate (wrap64 ((t177.length : Int) - (t183.length : Int)) : Int).toNat 0 : List Int)).bind fun y186 => (nat_div.l0 k t176 t177 t183 (t183.length : Int) y186 (wrap64 ((y186.length : Int) - 1)))) else (none)) else (none)))))) else (none)) else (none))))
theorem nat_div.mono_l : ∀ k, (∀ y0 y1 y2 y3 y4 y5, LeO (nat_div.l0 k y0 y1 y2 y3 y4 y5) (nat_div.l0 (k + 1) y0 y1 y2 y3 y4 y5)) ∧ (∀ y0 y1 y2 y3 y4 y5 y6, LeO (nat_div.j3 k y0 y1 y2 y3 y4 y5 y6) (nat_div.j3 (k + 1) y0 y1 y2 y3 y4 y5 y6)) ∧ (∀ y0 y1 y2 y3 y4 y5 y6 y7, LeO (nat_div.l1 k y0 y1 y2 y3 y4 y5 y6 y7) (nat_div.l1 (k + 1) y0 y1 y2 y3 y4 y5 y6 y7)) ∧ (∀ y0 y1 y2 y3 y4 y5 y6 y7 y8, LeO (nat_div.j2 k y0 y1 y2 y3 y4 y5 y6 y7 y8) (nat_div.j2 (k + 1) y0 y1 y2 y3 y4 y5 y6 y7 y8))
  | 0 => ⟨fun _ _ _ _ _ _ r h => by simp [nat_div.l0] at h, fun _ _ _ _ _ _ _ r h => by simp [nat_div.j3] at h, fun _ _ _ _ _ _ _ _ r h => by simp [nat_div.l1] at h, fun _ _ _ _ _ _ _ _ _ r h => by simp [nat_div.j2] at h⟩
  | k + 1 => by
    obtain ⟨ih0, ih1, ih2, ih3⟩ := nat_div.mono_l k
    refine ⟨?_, ?_, ?_, ?_⟩
    · intro y0 y1 y2 y3 y4 y5
      unfold nat_div.l0
      repeat' first
      | (with_reducible exact ih0 _ _ _ _ _ _)
      | (with_reducible exact ih1 _ _ _ _ _ _ _)
      | (with_reducible exact ih2 _ _ _ _ _ _ _ _)
      | (with_reducible exact ih3 _ _ _ _ _ _ _ _ _)
      | (with_reducible exact nat_compare.mono _ _ _)
      | (with_reducible exact nat_give.mono _ _ _ _ _)
      | (with_reducible exact nat_left.mono _ _ _)
      | (with_reducible exact nat_right.mono _ _ _)
      | (with_reducible exact nat_short.mono _ _ _)
      | (with_reducible exact nat_take.mono _ _ _ _ _ _)
      | (with_reducible exact nat_trim.mono _ _)
      | (with_reducible exact LeO.refl _)
      | (with_reducible exact LeO.none _)
      | (with_reducible refine LeO.ite ?_ ?_)
      | (with_reducible refine LeO.bind ?_ (fun _ => ?_))
      | exact ih0 _ _ _ _ _ _
      | exact ih1 _ _ _ _ _ _ _
      | exact ih2 _ _ _ _ _ _ _ _
      | exact ih3 _ _ _ _ _ _ _ _ _
      | exact nat_compare.mono _ _ _
      | exact nat_give.mono _ _ _ _ _
      | exact nat_left.mono _ _ _
      | exact nat_right.mono _ _ _
      | exact nat_short.mono _ _ _
      | exact nat_take.mono _ _ _ _ _ _
      | exact nat_trim.mono _ _
      | exact LeO.none _
      | refine LeO.ite ?_ ?_
      | refine LeO.bind ?_ (fun _ => ?_)
    · intro y0 y1 y2 y3 y4 y5 y6
      unfold nat_div.j3
      repeat' first
      | (with_reducible exact ih0 _ _ _ _ _ _)
      | (with_reducible exact ih1 _ _ _ _ _ _ _)
      | (with_reducible exact ih2 _ _ _ _ _ _ _ _)
      | (with_reducible exact ih3 _ _ _ _ _ _ _ _ _)
      | (with_reducible exact nat_compare.mono _ _ _)
      | (with_reducible exact nat_give.mono _ _ _ _ _)
      | (with_reducible exact nat_left.mono _ _ _)
      | (with_reducible exact nat_right.mono _ _ _)
      | (with_reducible exact nat_short.mono _ _ _)
      | (with_reducible exact nat_take.mono _ _ _ _ _ _)
      | (with_reducible exact nat_trim.mono _ _)
      | (with_reducible exact LeO.refl _)
      | (with_reducible exact LeO.none _)
      | (with_reducible refine LeO.ite ?_ ?_)
      | (with_reducible refine LeO.bind ?_ (fun _ => ?_))
      | exact ih0 _ _ _ _ _ _
      | exact ih1 _ _ _ _ _ _ _
      | exact ih2 _ _ _ _ _ _ _ _
      | exact ih3 _ _ _ _ _ _ _ _ _
      | exact nat_compare.mono _ _ _
      | exact nat_give.mono _ _ _ _ _
      | exact nat_left.mono _ _ _
      | exact nat_right.mono _ _ _
      | exact nat_short.mono _ _ _
      | exact nat_take.mono _ _ _ _ _ _
      | exact nat_trim.mono _ _
      | exact LeO.none _
      | refine LeO.ite ?_ ?_
      | refine LeO.bind ?_ (fun _ => ?_)
    · intro y0 y1 y2 y3 y4 y5 y6 y7
      unfold nat_div.l1
      repeat' first
      | (with_reducible exact ih0 _ _ _ _ _ _)
      | (with_reducible exact ih1 _ _ _ _ _ _ _)
      | (with_reducible exact ih2 _ _ _ _ _ _ _ _)
      | (with_reducible exact ih3 _ _ _ _ _ _ _ _ _)
      | (with_reducible exact nat_compare.mono _ _ _)
      | (with_reducible exact nat_give.mono _ _ _ _ _)
      | (with_reducible exact nat_left.mono _ _ _)
      | (with_reducible exact nat_right.mono _ _ _)
      | (with_reducible exact nat_short.mono _ _ _)
      | (with_reducible exact nat_take.mono _ _ _ _ _ _)
      | (with_reducible exact nat_trim.mono _ _)
      | (with_reducible exact LeO.refl _)
      | (with_reducible exact LeO.none _)
      | (with_reducible refine LeO.ite ?_ ?_)
      | (with_reducible refine LeO.bind ?_ (fun _ => ?_))
      | exact ih0 _ _ _ _ _ _
      | exact ih1 _ _ _ _ _ _ _
      | exact ih2 _ _ _ _ _ _ _ _
      | exact ih3 _ _ _ _ _ _ _ _ _
      | exact nat_compare.mono _ _ _
      | exact nat_give.mono _ _ _ _ _
      | exact nat_left.mono _ _ _
      | exact nat_right.mono _ _ _
      | exact nat_short.mono _ _ _
      | exact nat_take.mono _ _ _ _ _ _
      | exact nat_trim.mono _ _
      | exact LeO.none _
      | refine LeO.ite ?_ ?_
      | refine LeO.bind ?_ (fun _ => ?_)
    · intro y0 y1 y2 y3 y4 y5 y6 y7 y8
      unfold nat_div.j2
      repeat' first
      | (with_reducible exact ih0 _ _ _ _ _ _)
      | (with_reducible exact ih1 _ _ _ _ _ _ _)
      | (with_reducible exact ih2 _ _ _ _ _ _ _ _)
      | (with_reducible exact ih3 _ _ _ _ _ _ _ _ _)
      | (with_reducible exact nat_compare.mono _ _ _)
      | (with_reducible exact nat_give.mono _ _ _ _ _)
      | (with_reducible exact nat_left.mono _ _ _)
      | (with_reducible exact nat_right.mono _ _ _)
      | (with_reducible exact nat_short.mono _ _ _)
      | (with_reducible exact nat_take.mono _ _ _ _ _ _)
      | (with_reducible exact nat_trim.mono _ _)
      | (with_reducible exact LeO.refl _)
      | (with_reducible exact LeO.none _)
      | (with_reducible refine LeO.ite ?_ ?_)
      | (with_reducible refine LeO.bind ?_ (fun _ => ?_))
      | exact ih0 _ _ _ _ _ _
      | exact ih1 _ _ _ _ _ _ _
      | exact ih2 _ _ _ _ _ _ _ _
      | exact ih3 _ _ _ _ _ _ _ _ _
      | exact nat_compare.mono _ _ _
      | exact nat_give.mono _ _ _ _ _
      | exact nat_left.mono _ _ _
      | exact nat_right.mono _ _ _
      | exact nat_short.mono _ _ _
      | exact nat_take.mono _ _ _ _ _ _
      | exact nat_trim.mono _ _
      | exact LeO.none _
      | refine LeO.ite ?_ ?_
      | refine LeO.bind ?_ (fun _ => ?_)
theorem nat_div.mono : ∀ a0 a1 k, LeO (nat_div.f k a0 a1) (nat_div.f (k + 1) a0 a1) := by
  intro a0 a1 k
  obtain ⟨ih0, ih1, ih2, ih3⟩ := nat_div.mono_l k
  unfold nat_div.f
  repeat' first
      | (with_reducible exact ih0 _ _ _ _ _ _)
      | (with_reducible exact ih1 _ _ _ _ _ _ _)
      | (with_reducible exact ih2 _ _ _ _ _ _ _ _)
      | (with_reducible exact ih3 _ _ _ _ _ _ _ _ _)
      | (with_reducible exact nat_compare.mono _ _ _)
      | (with_reducible exact nat_give.mono _ _ _ _ _)
      | (with_reducible exact nat_left.mono _ _ _)
      | (with_reducible exact nat_right.mono _ _ _)
      | (with_reducible exact nat_short.mono _ _ _)
      | (with_reducible exact nat_take.mono _ _ _ _ _ _)
      | (with_reducible exact nat_trim.mono _ _)
      | (with_reducible exact LeO.refl _)
      | (with_reducible exact LeO.none _)
      | (with_reducible refine LeO.ite ?_ ?_)
      | (with_reducible refine LeO.bind ?_ (fun _ => ?_))
      | exact ih0 _ _ _ _ _ _
      | exact ih1 _ _ _ _ _ _ _
      | exact ih2 _ _ _ _ _ _ _ _
      | exact ih3 _ _ _ _ _ _ _ _ _
      | exact nat_compare.mono _ _ _
      | exact nat_give.mono _ _ _ _ _
      | exact nat_left.mono _ _ _
      | exact nat_right.mono _ _ _
      | exact nat_short.mono _ _ _
      | exact nat_take.mono _ _ _ _ _ _
      | exact nat_trim.mono _ _
      | exact LeO.none _
      | refine LeO.ite ?_ ?_
      | refine LeO.bind ?_ (fun _ => ?_)
def nat_Div.f (k : Nat) (l0 : List Int) (l1 : List Int) : Option (List Int × List Int × Int) := (nat_form.f k (([l0, l1] : List (List Int)))).bind fun t213 => (if t213 = 0 then (if (l1.length : Int) = 0 then (some (([] : List Int), ([] : List Int), 11)) else ((nat_div.f k l0 l1).bind fun bt214 => (some (bt214.1, bt214.2, 0)))) else (some (([] : List Int), ([] : List Int), t213)))
theorem nat_Div.mono : ∀ a0 a1 k, LeO (nat_Div.f k a0 a1) (nat_Div.f (k + 1) a0 a1) := by
  intro a0 a1 k
  unfold nat_Div.f
  repeat' first
      | (with_reducible exact nat_div.mono _ _ _)
      | (with_reducible exact nat_form.mono _ _)
      | (with_reducible exact LeO.refl _)
      | (with_reducible exact LeO.none _)
      | (with_reducible refine LeO.ite ?_ ?_)
      | (with_reducible refine LeO.bind ?_ (fun _ => ?_))
      | exact nat_div.mono _ _ _
      | exact nat_form.mono _ _
      | exact LeO.none _
      | refine LeO.ite ?_ ?_
      | refine LeO.bind ?_ (fun _ => ?_)
def fluxionref01_Valid.f (l0 : List Int) : Option (Int) := if (l0.length : Int) > 512 then (some 3) else (if (l0.length : Int) > 0 then (if 0 ≤ (wrap64 ((l0.length : Int) - 1)) then (if (wrap64 ((l0.length : Int) - 1)) < (l0.length : Int) then (if (rd l0 (wrap64 ((l0.length : Int) - 1))) = 0 then (some 5) else (some 0)) else (none)) else (none)) else (some 0))
def fluxionref01_Both.f (l0 : List Int) (l1 : List Int) : Option (Int) := (fluxionref01_Valid.f l0).bind fun t221 => (if t221 = 0 then ((fluxionref01_Valid.f l1).bind fun t222 => (some t222)) else (some t221))
def fluxionlaw01_same.l0 : Nat → List Int → List Int → Int → Option (Bool)
  | 0, _, _, _ => none
  | k + 1, x0, x1, x5 => if x5 < (x0.length : Int) then (if 0 ≤ x5 then (if x5 < (x1.length : Int) then (if (rd x0 x5) = (rd x1 x5) then (fluxionlaw01_same.l0 k x0 x1 (wrap64 (x5 + 1))) else (some false)) else (none)) else (none)) else (some true)
def fluxionlaw01_same.f (k : Nat) (l0 : List Int) (l1 : List Int) : Option (Bool) := if (l0.length : Int) = (l1.length : Int) then (fluxionlaw01_same.l0 k l0 l1 0) else (some false)
theorem fluxionlaw01_same.mono_l : ∀ k, (∀ y0 y1 y2, LeO (fluxionlaw01_same.l0 k y0 y1 y2) (fluxionlaw01_same.l0 (k + 1) y0 y1 y2))
  | 0 => fun _ _ _ r h => by simp [fluxionlaw01_same.l0] at h
  | k + 1 => by
    have ih0 := fluxionlaw01_same.mono_l k
    · intro y0 y1 y2
      unfold fluxionlaw01_same.l0
      repeat' first
      | (with_reducible exact ih0 _ _ _)
      | (with_reducible exact LeO.refl _)
      | (with_reducible exact LeO.none _)
      | (with_reducible refine LeO.ite ?_ ?_)
      | (with_reducible refine LeO.bind ?_ (fun _ => ?_))
      | exact ih0 _ _ _
      | exact LeO.none _
      | refine LeO.ite ?_ ?_
      | refine LeO.bind ?_ (fun _ => ?_)
theorem fluxionlaw01_same.mono : ∀ a0 a1 k, LeO (fluxionlaw01_same.f k a0 a1) (fluxionlaw01_same.f (k + 1) a0 a1) := by
  intro a0 a1 k
  have ih0 := fluxionlaw01_same.mono_l k
  unfold fluxionlaw01_same.f
  repeat' first
      | (with_reducible exact ih0 _ _ _)
      | (with_reducible exact LeO.refl _)
      | (with_reducible exact LeO.none _)
      | (with_reducible refine LeO.ite ?_ ?_)
      | (with_reducible refine LeO.bind ?_ (fun _ => ?_))
      | exact ih0 _ _ _
      | exact LeO.none _
      | refine LeO.ite ?_ ?_
      | refine LeO.bind ?_ (fun _ => ?_)
def fluxionlaw01_is.f (k : Nat) (l0 : List Int) (a1 : Int) (l2 : List Int) (a3 : Int) : Option (Bool) := if a3 = 0 then (if a1 = 0 then ((fluxionlaw01_same.f k l0 l2).bind fun t225 => (some t225)) else (some false)) else (if a1 = a3 then (some ((l0.length : Int) == 0)) else (some false))
theorem fluxionlaw01_is.mono : ∀ a0 a1 a2 a3 k, LeO (fluxionlaw01_is.f k a0 a1 a2 a3) (fluxionlaw01_is.f (k + 1) a0 a1 a2 a3) := by
  intro a0 a1 a2 a3 k
  unfold fluxionlaw01_is.f
  repeat' first
      | (with_reducible exact fluxionlaw01_same.mono _ _ _)
      | (with_reducible exact LeO.refl _)
      | (with_reducible exact LeO.none _)
      | (with_reducible refine LeO.ite ?_ ?_)
      | (with_reducible refine LeO.bind ?_ (fun _ => ?_))
      | exact fluxionlaw01_same.mono _ _ _
      | exact LeO.none _
      | refine LeO.ite ?_ ?_
      | refine LeO.bind ?_ (fun _ => ?_)
def nat_gcd.l0 : Nat → List Int → List Int → Option (List Int)
  | 0, _, _ => none
  | k + 1, x0, x1 => if (x1.length : Int) > 0 then ((nat_div.f k x0 x1).bind fun bt226 => (nat_gcd.l0 k x1 bt226.2)) else ((slices_Clone_uint32_uint32.f x0).bind fun t232 => (some t232))
def nat_gcd.f (k : Nat) (l0 : List Int) (l1 : List Int) : Option (List Int) := nat_gcd.l0 k l0 l1
theorem nat_gcd.mono_l : ∀ k, (∀ y0 y1, LeO (nat_gcd.l0 k y0 y1) (nat_gcd.l0 (k + 1) y0 y1))
  | 0 => fun _ _ r h => by simp [nat_gcd.l0] at h
  | k + 1 => by
    have ih0 := nat_gcd.mono_l k
    · intro y0 y1
      unfold nat_gcd.l0
      repeat' first
      | (with_reducible exact ih0 _ _)
      | (with_reducible exact nat_div.mono _ _ _)
      | (with_reducible exact LeO.refl _)
      | (with_reducible exact LeO.none _)
      | (with_reducible refine LeO.ite ?_ ?_)
      | (with_reducible refine LeO.bind ?_ (fun _ => ?_))
      | exact ih0 _ _
      | exact nat_div.mono _ _ _
      | exact LeO.none _
      | refine LeO.ite ?_ ?_
      | refine LeO.bind ?_ (fun _ => ?_)
theorem nat_gcd.mono : ∀ a0 a1 k, LeO (nat_gcd.f k a0 a1) (nat_gcd.f (k + 1) a0 a1) := by
  intro a0 a1 k
  have ih0 := nat_gcd.mono_l k
  unfold nat_gcd.f
  repeat' first
      | (with_reducible exact ih0 _ _)
      | (with_reducible exact nat_div.mono _ _ _)
      | (with_reducible exact LeO.refl _)
      | (with_reducible exact LeO.none _)
      | (with_reducible refine LeO.ite ?_ ?_)
      | (with_reducible refine LeO.bind ?_ (fun _ => ?_))
      | exact ih0 _ _
      | exact nat_div.mono _ _ _
      | exact LeO.none _
      | refine LeO.ite ?_ ?_
      | refine LeO.bind ?_ (fun _ => ?_)
def nat_Gcd.f (k : Nat) (l0 : List Int) (l1 : List Int) : Option (List Int × Int) := (nat_form.f k (([l0, l1] : List (List Int)))).bind fun t238 => (if t238 = 0 then ((nat_gcd.f k l0 l1).bind fun t239 => (some (t239, 0))) else (some (([] : List Int), t238)))
theorem nat_Gcd.mono : ∀ a0 a1 k, LeO (nat_Gcd.f k a0 a1) (nat_Gcd.f (k + 1) a0 a1) := by
  intro a0 a1 k
  unfold nat_Gcd.f
  repeat' first
      | (with_reducible exact nat_form.mono _ _)
      | (with_reducible exact nat_gcd.mono _ _ _)
      | (with_reducible exact LeO.refl _)
      | (with_reducible exact LeO.none _)
      | (with_reducible refine LeO.ite ?_ ?_)
      | (with_reducible refine LeO.bind ?_ (fun _ => ?_))
      | exact nat_form.mono _ _
      | exact nat_gcd.mono _ _ _
      | exact LeO.none _
      | refine LeO.ite ?_ ?_
      | refine LeO.bind ?_ (fun _ => ?_)
def nat_size.f (l0 : List Int) : Option (Int) := if (l0.length : Int) = 0 then (some 0) else (if 0 ≤ (wrap64 ((l0.length : Int) - 1)) then (if (wrap64 ((l0.length : Int) - 1)) < (l0.length : Int) then ((bits_Len32.f (rd l0 (wrap64 ((l0.length : Int) - 1)))).bind fun t243 => (some (wrap64 ((wrap64 (32 * (wrap64 ((l0.length : Int) - 1)))) + t243)))) else (none)) else (none))
def nat_add.l0 : Nat → List Int → List Int → List Int → Int → Int → Int → Option (List Int)
  | 0, _, _, _, _, _, _ => none
  | k + 1, x0, x1, x5, x6, x19, x20 => if x20 < x19 then ((nat_at.f x0 x20).bind fun t247 => ((nat_at.f x1 x20).bind fun t248 => (if x5.length < 35184372088832 then (nat_add.l0 k x0 x1 (x5 ++ [(IntKind.u64.wrap (x6 + (IntKind.u64.wrap (t247 + t248)))) % 4294967296]) ((IntKind.u64.wrap (x6 + (IntKind.u64.wrap (t247 + t248)))) / 4294967296) x19 (wrap64 (x20 + 1))) else (none)))) else (if x5.length < 35184372088832 then ((nat_trim.f k (x5 ++ [(x6) % 4294967296])).bind fun t255 => (some t255)) else (none))
def nat_add.f (k : Nat) (l0 : List Int) (l1 : List Int) : Option (List Int) := if 0 ≤ wrap64 (mx (l0.length : Int) (l1.length : Int) + 1) then (if wrap64 (mx (l0.length : Int) (l1.length : Int) + 1) ≤ 70368744177664 then (nat_add.l0 k l0 l1 (([] : List Int)) 0 (mx (l0.length : Int) (l1.length : Int)) 0) else (none)) else (none)
theorem nat_add.mono_l : ∀ k, (∀ y0 y1 y2 y3 y4 y5, LeO (nat_add.l0 k y0 y1 y2 y3 y4 y5) (nat_add.l0 (k + 1) y0 y1 y2 y3 y4 y5))
  | 0 => fun _ _ _ _ _ _ r h => by simp [nat_add.l0] at h
  | k + 1 => by
    have ih0 := nat_add.mono_l k
    · intro y0 y1 y2 y3 y4 y5
      unfold nat_add.l0
      repeat' first
      | (with_reducible exact ih0 _ _ _ _ _ _)
      | (with_reducible exact nat_trim.mono _ _)
      | (with_reducible exact LeO.refl _)
      | (with_reducible exact LeO.none _)
      | (with_reducible refine LeO.ite ?_ ?_)
      | (with_reducible refine LeO.bind ?_ (fun _ => ?_))
      | exact ih0 _ _ _ _ _ _
      | exact nat_trim.mono _ _
      | exact LeO.none _
      | refine LeO.ite ?_ ?_
      | refine LeO.bind ?_ (fun _ => ?_)
theorem nat_add.mono : ∀ a0 a1 k, LeO (nat_add.f k a0 a1) (nat_add.f (k + 1) a0 a1) := by
  intro a0 a1 k
  have ih0 := nat_add.mono_l k
  unfold nat_add.f
  repeat' first
      | (with_reducible exact ih0 _ _ _ _ _ _)
      | (with_reducible exact nat_trim.mono _ _)
      | (with_reducible exact LeO.refl _)
      | (with_reducible exact LeO.none _)
      | (with_reducible refine LeO.ite ?_ ?_)
      | (with_reducible refine LeO.bind ?_ (fun _ => ?_))
      | exact ih0 _ _ _ _ _ _
      | exact nat_trim.mono _ _
      | exact LeO.none _
      | refine LeO.ite ?_ ?_
      | refine LeO.bind ?_ (fun _ => ?_)
def nat_Root.l0 : Nat → List Int → List Int → Option (List Int × Int)
  | 0, _, _ => none
  | k + 1, x0, x5 => (nat_div.f k x0 x5).bind fun bt273 => ((nat_add.f k x5 bt273.1).bind fun t279 => ((nat_right.f k t279 1).bind fun t282 => ((nat_compare.f k t282 x5).bind fun t285 => (if t285 ≥ 0 then (some (x5, 0)) else (nat_Root.l0 k x0 t282)))))
def nat_Root.f (k : Nat) (l0 : List Int) : Option (List Int × Int) := (nat_form.f k (([l0] : List (List Int)))).bind fun t261 => (if t261 = 0 then (if (l0.length : Int) = 0 then (some (([] : List Int), 0)) else ((nat_size.f l0).bind fun t262 => (if 0 ≤ (wrap64 (Int.tdiv (wrap64 (Int.tdiv (wrap64 (t262 + 1)) 2)) 32)) then (if (wrap64 (Int.tdiv (wrap64 (Int.tdiv (wrap64 (t262 + 1)) 2)) 32) : Int).toNat ≤ 70368744177664 then ((some (List.replicate (wrap64 (Int.tdiv (wrap64 (Int.tdiv (wrap64 (t262 + 1)) 2)) 32) : Int).toNat 0 : List Int)).bind fun y263 => ((nat_size.f l0).bind fun t266 => (if 0 ≤ (Int.tmod (wrap64 (Int.tdiv (wrap64 (t266 + 1)) 2)) 32) then ((some (([shl .u32 1 (Int.tmod (wrap64 (Int.tdiv (wrap64 (t266 + 1)) 2)) 32)] : List Int) : List Int)).bind fun y267 => (if y263.length + y267.length < 35184372088832 then (nat_Root.l0 k l0 (y263 ++ y267)) else (none))) else (none)))) else (none)) else (none)))) else (some (([] : List Int), t261)))
theorem nat_Root.mono_l : ∀ k, (∀ y0 y1, LeO (nat_Root.l0 k y0 y1) (nat_Root.l0 (k + 1) y0 y1))
  | 0 => fun _ _ r h => by simp [nat_Root.l0] at h
  | k + 1 => by
    have ih0 := nat_Root.mono_l k
    · intro y0 y1
      unfold nat_Root.l0
      repeat' first
      | (with_reducible exact ih0 _ _)
      | (with_reducible exact nat_add.mono _ _ _)
      | (with_reducible exact nat_compare.mono _ _ _)
      | (with_reducible exact nat_div.mono _ _ _)
      | (with_reducible exact nat_form.mono _ _)
      | (with_reducible exact nat_right.mono _ _ _)
      | (with_reducible exact LeO.refl _)
      | (with_reducible exact LeO.none _)
      | (with_reducible refine LeO.ite ?_ ?_)
      | (with_reducible refine LeO.bind ?_ (fun _ => ?_))
      | exact ih0 _ _
      | exact nat_add.mono _ _ _
      | exact nat_compare.mono _ _ _
      | exact nat_div.mono _ _ _
      | exact nat_form.mono _ _
      | exact nat_right.mono _ _ _
      | exact LeO.none _
      | refine LeO.ite ?_ ?_
      | refine LeO.bind ?_ (fun _ => ?_)
theorem nat_Root.mono : ∀ a0 k, LeO (nat_Root.f k a0) (nat_Root.f (k + 1) a0) := by
  intro a0 k
  have ih0 := nat_Root.mono_l k
  unfold nat_Root.f
  repeat' first
      | (with_reducible exact ih0 _ _)
      | (with_reducible exact nat_add.mono _ _ _)
      | (with_reducible exact nat_compare.mono _ _ _)
      | (with_reducible exact nat_div.mono _ _ _)
      | (with_reducible exact nat_form.mono _ _)
      | (with_reducible exact nat_right.mono _ _ _)
      | (with_reducible exact LeO.refl _)
      | (with_reducible exact LeO.none _)
      | (with_reducible refine LeO.ite ?_ ?_)
      | (with_reducible refine LeO.bind ?_ (fun _ => ?_))
      | exact ih0 _ _
      | exact nat_add.mono _ _ _
      | exact nat_compare.mono _ _ _
      | exact nat_div.mono _ _ _
      | exact nat_form.mono _ _
      | exact nat_right.mono _ _ _
      | exact LeO.none _
      | refine LeO.ite ?_ ?_
      | refine LeO.bind ?_ (fun _ => ?_)
def slices_Reverse_byte_byte.l0 : Nat → List Int → Int → Int → Option (List Int)
  | 0, _, _, _ => none
  | k + 1, x0, x2, x3 => if x2 < x3 then (if 0 ≤ x3 then (if x3 < (x0.length : Int) then (if 0 ≤ x2 then (if x2 < (x0.length : Int) then (slices_Reverse_byte_byte.l0 k ((x0.set (x2 : Int).toNat (rd x0 x3)).set (x3 : Int).toNat (rd x0 x2)) (wrap64 (x2 + 1)) (wrap64 (x3 - 1))) else (none)) else (none)) else (none)) else (none)) else (some x0)
def slices_Reverse_byte_byte.f (k : Nat) (l0 : List Int) : Option (List Int) := slices_Reverse_byte_byte.l0 k l0 0 (wrap64 ((l0.length : Int) - 1))
theorem slices_Reverse_byte_byte.mono_l : ∀ k, (∀ y0 y1 y2, LeO (slices_Reverse_byte_byte.l0 k y0 y1 y2) (slices_Reverse_byte_byte.l0 (k + 1) y0 y1 y2))
  | 0 => fun _ _ _ r h => by simp [slices_Reverse_byte_byte.l0] at h
  | k + 1 => by
    have ih0 := slices_Reverse_byte_byte.mono_l k
    · intro y0 y1 y2
      unfold slices_Reverse_byte_byte.l0
      repeat' first
      | (with_reducible exact ih0 _ _ _)
      | (with_reducible exact LeO.refl _)
      | (with_reducible exact LeO.none _)
      | (with_reducible refine LeO.ite ?_ ?_)
      | (with_reducible refine LeO.bind ?_ (fun _ => ?_))
      | exact ih0 _ _ _
      | exact LeO.none _
      | refine LeO.ite ?_ ?_
      | refine LeO.bind ?_ (fun _ => ?_)
theorem slices_Reverse_byte_byte.mono : ∀ a0 k, LeO (slices_Reverse_byte_byte.f k a0) (slices_Reverse_byte_byte.f (k + 1) a0) := by
  intro a0 k
  have ih0 := slices_Reverse_byte_byte.mono_l k
  unfold slices_Reverse_byte_byte.f
  repeat' first
      | (with_reducible exact ih0 _ _ _)
      | (with_reducible exact LeO.refl _)
      | (with_reducible exact LeO.none _)
      | (with_reducible refine LeO.ite ?_ ?_)
      | (with_reducible refine LeO.bind ?_ (fun _ => ?_))
      | exact ih0 _ _ _
      | exact LeO.none _
      | refine LeO.ite ?_ ?_
      | refine LeO.bind ?_ (fun _ => ?_)
mutual
def nat_Text.l0 : Nat → List Int → List Int → Option (ByteArray × Int)
  | 0, _, _ => none
  | k + 1, x0, x5 => if (x0.length : Int) > 0 then ((nat_short.f k x0 1000000000).bind fun bt297 => (nat_Text.l1 k bt297.1 x5 bt297.2 0)) else (nat_Text.l2 k x5)
def nat_Text.l1 : Nat → List Int → List Int → Int → Int → Option (ByteArray × Int)
  | 0, _, _, _, _ => none
  | k + 1, x0, x5, x6, x26 => if x26 < 9 then (if x5.length < 140737488355328 then (nat_Text.l1 k x0 (x5 ++ [(48 + (Int.tmod x6 10)) % 256]) ((Int.tdiv x6 10) % 4294967296) (wrap64 (x26 + 1))) else (none)) else (nat_Text.l0 k x0 x5)
def nat_Text.l2 : Nat → List Int → Option (ByteArray × Int)
  | 0, _ => none
  | k + 1, x5 => if 0 ≤ (wrap64 ((x5.length : Int) - 1)) then (if (wrap64 ((x5.length : Int) - 1)) < (x5.length : Int) then (if (rd x5 (wrap64 ((x5.length : Int) - 1))) = 48 then (if (wrap64 ((x5.length : Int) - 1)) ≤ (x5.length : Int) then (nat_Text.l2 k (x5.take ((wrap64 ((x5.length : Int) - 1)) : Int).toNat)) else (none)) else ((slices_Reverse_byte_byte.f k x5).bind fun t308 => (some (strOfNums t308, 0)))) else (none)) else (none)
end
def nat_Text.f (k : Nat) (l0 : List Int) : Option (ByteArray × Int) := (nat_form.f k (([l0] : List (List Int)))).bind fun t293 => (if t293 = 0 then (if (l0.length : Int) = 0 then (some ((⟨#[48]⟩ : ByteArray), 0)) else ((slices_Clone_uint32_uint32.f l0).bind fun t294 => (nat_Text.l0 k t294 ([] : List Int)))) else (some ((⟨#[]⟩ : ByteArray), t293)))
theorem nat_Text.mono_l : ∀ k, (∀ y0 y1, LeO (nat_Text.l0 k y0 y1) (nat_Text.l0 (k + 1) y0 y1)) ∧ (∀ y0 y1 y2 y3, LeO (nat_Text.l1 k y0 y1 y2 y3) (nat_Text.l1 (k + 1) y0 y1 y2 y3)) ∧ (∀ y0, LeO (nat_Text.l2 k y0) (nat_Text.l2 (k + 1) y0))
  | 0 => ⟨fun _ _ r h => by simp [nat_Text.l0] at h, fun _ _ _ _ r h => by simp [nat_Text.l1] at h, fun _ r h => by simp [nat_Text.l2] at h⟩
  | k + 1 => by
    obtain ⟨ih0, ih1, ih2⟩ := nat_Text.mono_l k
    refine ⟨?_, ?_, ?_⟩
    · intro y0 y1
      unfold nat_Text.l0
      repeat' first
      | (with_reducible exact ih0 _ _)
      | (with_reducible exact ih1 _ _ _ _)
      | (with_reducible exact ih2 _)
      | (with_reducible exact nat_form.mono _ _)
      | (with_reducible exact nat_short.mono _ _ _)
      | (with_reducible exact slices_Reverse_byte_byte.mono _ _)
      | (with_reducible exact LeO.refl _)
      | (with_reducible exact LeO.none _)
      | (with_reducible refine LeO.ite ?_ ?_)
      | (with_reducible refine LeO.bind ?_ (fun _ => ?_))
      | exact ih0 _ _
      | exact ih1 _ _ _ _
      | exact ih2 _
      | exact nat_form.mono _ _
      | exact nat_short.mono _ _ _
      | exact slices_Reverse_byte_byte.mono _ _
      | exact LeO.none _
      | refine LeO.ite ?_ ?_
      | refine LeO.bind ?_ (fun _ => ?_)
    · intro y0 y1 y2 y3
      unfold nat_Text.l1
      repeat' first
      | (with_reducible exact ih0 _ _)
      | (with_reducible exact ih1 _ _ _ _)
      | (with_reducible exact ih2 _)
      | (with_reducible exact nat_form.mono _ _)
      | (with_reducible exact nat_short.mono _ _ _)
      | (with_reducible exact slices_Reverse_byte_byte.mono _ _)
      | (with_reducible exact LeO.refl _)
      | (with_reducible exact LeO.none _)
      | (with_reducible refine LeO.ite ?_ ?_)
      | (with_reducible refine LeO.bind ?_ (fun _ => ?_))
      | exact ih0 _ _
      | exact ih1 _ _ _ _
      | exact ih2 _
      | exact nat_form.mono _ _
      | exact nat_short.mono _ _ _
      | exact slices_Reverse_byte_byte.mono _ _
      | exact LeO.none _
      | refine LeO.ite ?_ ?_
      | refine LeO.bind ?_ (fun _ => ?_)
    · intro y0
      unfold nat_Text.l2
      repeat' first
      | (with_reducible exact ih0 _ _)
      | (with_reducible exact ih1 _ _ _ _)
      | (with_reducible exact ih2 _)
      | (with_reducible exact nat_form.mono _ _)
      | (with_reducible exact nat_short.mono _ _ _)
      | (with_reducible exact slices_Reverse_byte_byte.mono _ _)
      | (with_reducible exact LeO.refl _)
      | (with_reducible exact LeO.none _)
      | (with_reducible refine LeO.ite ?_ ?_)
      | (with_reducible refine LeO.bind ?_ (fun _ => ?_))
      | exact ih0 _ _
      | exact ih1 _ _ _ _
      | exact ih2 _
      | exact nat_form.mono _ _
      | exact nat_short.mono _ _ _
      | exact slices_Reverse_byte_byte.mono _ _
      | exact LeO.none _
      | refine LeO.ite ?_ ?_
      | refine LeO.bind ?_ (fun _ => ?_)
theorem nat_Text.mono : ∀ a0 k, LeO (nat_Text.f k a0) (nat_Text.f (k + 1) a0) := by
  intro a0 k
  obtain ⟨ih0, ih1, ih2⟩ := nat_Text.mono_l k
  unfold nat_Text.f
  repeat' first
      | (with_reducible exact ih0 _ _)
      | (with_reducible exact ih1 _ _ _ _)
      | (with_reducible exact ih2 _)
      | (with_reducible exact nat_form.mono _ _)
      | (with_reducible exact nat_short.mono _ _ _)
      | (with_reducible exact slices_Reverse_byte_byte.mono _ _)
      | (with_reducible exact LeO.refl _)
      | (with_reducible exact LeO.none _)
      | (with_reducible refine LeO.ite ?_ ?_)
      | (with_reducible refine LeO.bind ?_ (fun _ => ?_))
      | exact ih0 _ _
      | exact ih1 _ _ _ _
      | exact ih2 _
      | exact nat_form.mono _ _
      | exact nat_short.mono _ _ _
      | exact slices_Reverse_byte_byte.mono _ _
      | exact LeO.none _
      | refine LeO.ite ?_ ?_
      | refine LeO.bind ?_ (fun _ => ?_)
mutual
def nat_Parse.j0 : Nat → ByteArray → Option (List Int × Int)
  | 0, _ => none
  | k + 1, x0 => nat_Parse.l0 k x0 ([] : List Int) (x0.size : Int) 0
def nat_Parse.l0 : Nat → ByteArray → List Int → Int → Int → Option (List Int × Int)
  | 0, _, _, _, _ => none
  | k + 1, x0, x4, x27, x28 => if x28 < x27 then (if 0 ≤ x28 then (if x28 < (x0.size : Int) then (if (bt x0 x28) < 48 then (nat_Parse.j2 k x0 x4 (bt x0 x28) x27 x28 true) else (nat_Parse.j2 k x0 x4 (bt x0 x28) x27 x28 (decide ((bt x0 x28) > 57)))) else (none)) else (none)) else (some (x4, 0))
def nat_Parse.j2 : Nat → ByteArray → List Int → Int → Int → Int → Bool → Option (List Int × Int)
  | 0, _, _, _, _, _, _ => none
  | k + 1, x0, x4, x6, x27, x28, x39 => if x39 = true then (some (([] : List Int), 5)) else (nat_Parse.l1 k x0 x4 ((x6 - 48) % 256) x27 x28 (x4.length : Int) 0)
def nat_Parse.l1 : Nat → ByteArray → List Int → Int → Int → Int → Int → Int → Option (List Int × Int)
  | 0, _, _, _, _, _, _, _ => none
  | k + 1, x0, x4, x7, x27, x28, x44, x45 => if x45 < x44 then (if 0 ≤ x45 then (if x45 < (x4.length : Int) then (nat_Parse.l1 k x0 (x4.set (x45 : Int).toNat ((IntKind.u64.wrap (x7 + (IntKind.u64.wrap (10 * (IntKind.u64.wrap (rd x4 x45)))))) % 4294967296)) ((IntKind.u64.wrap (x7 + (IntKind.u64.wrap (10 * (IntKind.u64.wrap (rd x4 x45)))))) / 4294967296) x27 x28 x44 (wrap64 (x45 + 1))) else (none)) else (none)) else (if x7 > 0 then (if x4.length < 35184372088832 then (nat_Parse.l0 k x0 (x4 ++ [(x7) % 4294967296]) x27 (wrap64 (x28 + 1))) else (none)) else (nat_Parse.l0 k x0 x4 x27 (wrap64 (x28 + 1))))
end
def nat_Parse.f (k : Nat) (a0 : ByteArray) : Option (List Int × Int) := if (a0.size : Int) > 4900 then (some (([] : List Int), 3)) else (if a0.toList = ([] : List UInt8) then (some (([] : List Int), 5)) else (if 0 < (a0.size : Int) then (if (bt a0 0) = 48 then (if (a0.size : Int) > 1 then (some (([] : List Int), 5)) else (nat_Parse.j0 k a0)) else (nat_Parse.j0 k a0)) else (none)))
theorem nat_Parse.mono_l : ∀ k, (∀ y0, LeO (nat_Parse.j0 k y0) (nat_Parse.j0 (k + 1) y0)) ∧ (∀ y0 y1 y2 y3, LeO (nat_Parse.l0 k y0 y1 y2 y3) (nat_Parse.l0 (k + 1) y0 y1 y2 y3)) ∧ (∀ y0 y1 y2 y3 y4 y5, LeO (nat_Parse.j2 k y0 y1 y2 y3 y4 y5) (nat_Parse.j2 (k + 1) y0 y1 y2 y3 y4 y5)) ∧ (∀ y0 y1 y2 y3 y4 y5 y6, LeO (nat_Parse.l1 k y0 y1 y2 y3 y4 y5 y6) (nat_Parse.l1 (k + 1) y0 y1 y2 y3 y4 y5 y6))
  | 0 => ⟨fun _ r h => by simp [nat_Parse.j0] at h, fun _ _ _ _ r h => by simp [nat_Parse.l0] at h, fun _ _ _ _ _ _ r h => by simp [nat_Parse.j2] at h, fun _ _ _ _ _ _ _ r h => by simp [nat_Parse.l1] at h⟩
  | k + 1 => by
    obtain ⟨ih0, ih1, ih2, ih3⟩ := nat_Parse.mono_l k
    refine ⟨?_, ?_, ?_, ?_⟩
    · intro y0
      unfold nat_Parse.j0
      repeat' first
      | (with_reducible exact ih0 _)
      | (with_reducible exact ih1 _ _ _ _)
      | (with_reducible exact ih2 _ _ _ _ _ _)
      | (with_reducible exact ih3 _ _ _ _ _ _ _)
      | (with_reducible exact LeO.refl _)
      | (with_reducible exact LeO.none _)
      | (with_reducible refine LeO.ite ?_ ?_)
      | (with_reducible refine LeO.bind ?_ (fun _ => ?_))
      | exact ih0 _
      | exact ih1 _ _ _ _
      | exact ih2 _ _ _ _ _ _
      | exact ih3 _ _ _ _ _ _ _
      | exact LeO.none _
      | refine LeO.ite ?_ ?_
      | refine LeO.bind ?_ (fun _ => ?_)
    · intro y0 y1 y2 y3
      unfold nat_Parse.l0
      repeat' first
      | (with_reducible exact ih0 _)
      | (with_reducible exact ih1 _ _ _ _)
      | (with_reducible exact ih2 _ _ _ _ _ _)
      | (with_reducible exact ih3 _ _ _ _ _ _ _)
      | (with_reducible exact LeO.refl _)
      | (with_reducible exact LeO.none _)
      | (with_reducible refine LeO.ite ?_ ?_)
      | (with_reducible refine LeO.bind ?_ (fun _ => ?_))
      | exact ih0 _
      | exact ih1 _ _ _ _
      | exact ih2 _ _ _ _ _ _
      | exact ih3 _ _ _ _ _ _ _
      | exact LeO.none _
      | refine LeO.ite ?_ ?_
      | refine LeO.bind ?_ (fun _ => ?_)
    · intro y0 y1 y2 y3 y4 y5
      unfold nat_Parse.j2
      repeat' first
      | (with_reducible exact ih0 _)
      | (with_reducible exact ih1 _ _ _ _)
      | (with_reducible exact ih2 _ _ _ _ _ _)
      | (with_reducible exact ih3 _ _ _ _ _ _ _)
      | (with_reducible exact LeO.refl _)
      | (with_reducible exact LeO.none _)
      | (with_reducible refine LeO.ite ?_ ?_)
      | (with_reducible refine LeO.bind ?_ (fun _ => ?_))
      | exact ih0 _
      | exact ih1 _ _ _ _
      | exact ih2 _ _ _ _ _ _
      | exact ih3 _ _ _ _ _ _ _
      | exact LeO.none _
      | refine LeO.ite ?_ ?_
      | refine LeO.bind ?_ (fun _ => ?_)
    · intro y0 y1 y2 y3 y4 y5 y6
      unfold nat_Parse.l1
      repeat' first
      | (with_reducible exact ih0 _)
      | (with_reducible exact ih1 _ _ _ _)
      | (with_reducible exact ih2 _ _ _ _ _ _)
      | (with_reducible exact ih3 _ _ _ _ _ _ _)
      | (with_reducible exact LeO.refl _)
      | (with_reducible exact LeO.none _)
      | (with_reducible refine LeO.ite ?_ ?_)
      | (with_reducible refine LeO.bind ?_ (fun _ => ?_))
      | exact ih0 _
      | exact ih1 _ _ _ _
      | exact ih2 _ _ _ _ _ _
      | exact ih3 _ _ _ _ _ _ _
      | exact LeO.none _
      | refine LeO.ite ?_ ?_
      | refine LeO.bind ?_ (fun _ => ?_)
theorem nat_Parse.mono : ∀ a0 k, LeO (nat_Parse.f k a0) (nat_Parse.f (k + 1) a0) := by
  intro a0 k
  obtain ⟨ih0, ih1, ih2, ih3⟩ := nat_Parse.mono_l k
  unfold nat_Parse.f
  repeat' first
      | (with_reducible exact ih0 _)
      | (with_reducible exact ih1 _ _ _ _)
      | (with_reducible exact ih2 _ _ _ _ _ _)
      | (with_reducible exact ih3 _ _ _ _ _ _ _)
      | (with_reducible exact LeO.refl _)
      | (with_reducible exact LeO.none _)
      | (with_reducible refine LeO.ite ?_ ?_)
      | (with_reducible refine LeO.bind ?_ (fun _ => ?_))
      | exact ih0 _
      | exact ih1 _ _ _ _
      | exact ih2 _ _ _ _ _ _
      | exact ih3 _ _ _ _ _ _ _
      | exact LeO.none _
      | refine LeO.ite ?_ ?_
      | refine LeO.bind ?_ (fun _ => ?_)
def nat_Bits.f (k : Nat) (l0 : List Int) : Option (Int × Int) := (nat_form.f k (([l0] : List (List Int)))).bind fun t317 => (if t317 = 0 then ((nat_size.f l0).bind fun t318 => (some (t318, 0))) else (some (0, t317)))
theorem nat_Bits.mono : ∀ a0 k, LeO (nat_Bits.f k a0) (nat_Bits.f (k + 1) a0) := by
  intro a0 k
  unfold nat_Bits.f
  repeat' first
      | (with_reducible exact nat_form.mono _ _)
      | (with_reducible exact LeO.refl _)
      | (with_reducible exact LeO.none _)
      | (with_reducible refine LeO.ite ?_ ?_)
      | (with_reducible refine LeO.bind ?_ (fun _ => ?_))
      | exact nat_form.mono _ _
      | exact LeO.none _
      | refine LeO.ite ?_ ?_
      | refine LeO.bind ?_ (fun _ => ?_)
def alive_real.f (k : Nat)  : Option (Bool) := (some (([0, 1] : List Int) : List Int)).bind fun y319 => ((nat_Text.f k y319).bind fun bt322 => ((nat_Div.f k y319 (([10] : List Int))).bind fun bt327 => ((nat_Gcd.f k (([12] : List Int)) (([18] : List Int))).bind fun bt340 => ((nat_Root.f k (([8] : List Int))).bind fun bt347 => ((nat_Bits.f k (([8] : List Int))).bind fun bt354 => ((nat_Parse.f k (⟨#[48, 48, 55]⟩ : ByteArray)).bind fun bt356 => (if bt322.2 = 0 then (if bt322.1.toList = ([52, 50, 57, 52, 57, 54, 55, 50, 57, 54] : List UInt8) then (if bt327.2.2 = 0 then ((fluxionlaw01_same.f k bt327.1 (([429496729] : List Int))).bind fun t363 => (if t363 = true then ((fluxionlaw01_same.f k bt327.2.1 (([6] : List Int))).bind fun t367 => (if t367 = true then (if bt340.2 = 0 then ((fluxionlaw01_same.f k bt340.1 (([6] : List Int))).bind fun t371 => (if t371 = true then (if bt347.2 = 0 then ((fluxionlaw01_same.f k bt347.1 (([2] : List Int))).bind fun t375 => (if t375 = true then (if bt354.2 = 0 then (if bt354.1 = 4 then (some (bt356.2 == 5)) else (some false)) else (some false)) else (some false))) else (some false)) else (some false))) else (some false)) else (some false))) else (some false))) else (some false)) else (some false)) else (some false))))))))
/-- What the law's walk is told: 'alive' answers true. -/
def fluxionlaw01_alive.f : Option (Bool) := some true
mutual
def nat_mul.l0 : Nat → List Int → List Int → List Int → Int → Int → Option (List Int)
  | 0, _, _, _, _, _ => none
  | k + 1, x1, x5, x17, x18, x19 => if x19 < x18 then (if 0 ≤ x19 then (if x19 < (x17.length : Int) then (nat_mul.l1 k x1 x5 x19 (rd x17 x19) 0 x17 x18 x19 x1 (x1.length : Int) 0) else (none)) else (none)) else ((nat_trim.f k x5).bind fun t570 => (some t570))
def nat_mul.l1 : Nat → List Int → List Int → Int → Int → Int → List Int → Int → Int → List Int → Int → Int → Option (List Int)
  | 0, _, _, _, _, _, _, _, _, _, _, _ => none
  | k + 1, x1, x5, x6, x7, x8, x17, x18, x19, x24, x25, x26 => if x26 < x25 then (if 0 ≤ x26 then (if x26 < (x24.length : Int) then (if 0 ≤ (wrap64 (x6 + x26)) then (if (wrap64 (x6 + x26)) < (x5.length : Int) then (nat_mul.l1 k x1 (x5.set ((wrap64 (x6 + x26)) : Int).toNat ((IntKind.u64.wrap (x8 + (IntKind.u64.wrap ((IntKind.u64.wrap ((IntKind.u64.wrap (x7)) * (IntKind.u64.wrap (rd x24 x26)))) + (IntKind.u64.wrap (rd x5 (wrap64 (x6 + x26)))))))) % 4294967296)) x6 x7 ((IntKind.u64.wrap (x8 + (IntKind.u64.wrap ((IntKind.u64.wrap ((IntKind.u64.wrap (x7)) * (IntKind.u64.wrap (rd x24 x26)))) + (IntKind.u64.wrap (rd x5 (wrap64 (x6 + x26)))))))) / 4294967296) x17 x18 x19 x24 x25 (wrap64 (x26 + 1))) else (none)) else (none)) else (none)) else (none)) else (if 0 ≤ (wrap64 (x6 + (x1.length : Int))) then (if (wrap64 (x6 + (x1.length : Int))) < (x5.length : Int) then (nat_mul.l0 k x1 (x5.set ((wrap64 (x6 + (x1.length : Int))) : Int).toNat ((x8) % 4294967296)) x17 x18 (wrap64 (x19 + 1))) else (none)) else (none))
end
def nat_mul.f (k : Nat) (l0 : List Int) (l1 : List Int) : Option (List Int) := if 0 ≤ (wrap64 ((l0.length : Int) + (l1.length : Int))) then (if (wrap64 ((l0.length : Int) + (l1.length : Int)) : Int).toNat ≤ 70368744177664 then (nat_mul.l0 k l1 (List.replicate (wrap64 ((l0.length : Int) + (l1.length : Int)) : Int).toNat 0) l0 (l0.length : Int) 0) else (none)) else (none)
theorem nat_mul.mono_l : ∀ k, (∀ y0 y1 y2 y3 y4, LeO (nat_mul.l0 k y0 y1 y2 y3 y4) (nat_mul.l0 (k + 1) y0 y1 y2 y3 y4)) ∧ (∀ y0 y1 y2 y3 y4 y5 y6 y7 y8 y9 y10, LeO (nat_mul.l1 k y0 y1 y2 y3 y4 y5 y6 y7 y8 y9 y10) (nat_mul.l1 (k + 1) y0 y1 y2 y3 y4 y5 y6 y7 y8 y9 y10))
  | 0 => ⟨fun _ _ _ _ _ r h => by simp [nat_mul.l0] at h, fun _ _ _ _ _ _ _ _ _ _ _ r h => by simp [nat_mul.l1] at h⟩
  | k + 1 => by
    obtain ⟨ih0, ih1⟩ := nat_mul.mono_l k
    refine ⟨?_, ?_⟩
    · intro y0 y1 y2 y3 y4
      unfold nat_mul.l0
      repeat' first
      | (with_reducible exact ih0 _ _ _ _ _)
      | (with_reducible exact ih1 _ _ _ _ _ _ _ _ _ _ _)
      | (with_reducible exact nat_trim.mono _ _)
      | (with_reducible exact LeO.refl _)
      | (with_reducible exact LeO.none _)
      | (with_reducible refine LeO.ite ?_ ?_)
      | (with_reducible refine LeO.bind ?_ (fun _ => ?_))
      | exact ih0 _ _ _ _ _
      | exact ih1 _ _ _ _ _ _ _ _ _ _ _
      | exact nat_trim.mono _ _
      | exact LeO.none _
      | refine LeO.ite ?_ ?_
      | refine LeO.bind ?_ (fun _ => ?_)
    · intro y0 y1 y2 y3 y4 y5 y6 y7 y8 y9 y10
      unfold nat_mul.l1
      repeat' first
      | (with_reducible exact ih0 _ _ _ _ _)
      | (with_reducible exact ih1 _ _ _ _ _ _ _ _ _ _ _)
      | (with_reducible exact nat_trim.mono _ _)
      | (with_reducible exact LeO.refl _)
      | (with_reducible exact LeO.none _)
      | (with_reducible refine LeO.ite ?_ ?_)
      | (with_reducible refine LeO.bind ?_ (fun _ => ?_))
      | exact ih0 _ _ _ _ _
      | exact ih1 _ _ _ _ _ _ _ _ _ _ _
      | exact nat_trim.mono _ _
      | exact LeO.none _
      | refine LeO.ite ?_ ?_
      | refine LeO.bind ?_ (fun _ => ?_)
theorem nat_mul.mono : ∀ a0 a1 k, LeO (nat_mul.f k a0 a1) (nat_mul.f (k + 1) a0 a1) := by
  intro a0 a1 k
  obtain ⟨ih0, ih1⟩ := nat_mul.mono_l k
  unfold nat_mul.f
  repeat' first
      | (with_reducible exact ih0 _ _ _ _ _)
      | (with_reducible exact ih1 _ _ _ _ _ _ _ _ _ _ _)
      | (with_reducible exact nat_trim.mono _ _)
      | (with_reducible exact LeO.refl _)
      | (with_reducible exact LeO.none _)
      | (with_reducible refine LeO.ite ?_ ?_)
      | (with_reducible refine LeO.bind ?_ (fun _ => ?_))
      | exact ih0 _ _ _ _ _
      | exact ih1 _ _ _ _ _ _ _ _ _ _ _
      | exact nat_trim.mono _ _
      | exact LeO.none _
      | refine LeO.ite ?_ ?_
      | refine LeO.bind ?_ (fun _ => ?_)
def nat_Mul.f (k : Nat) (l0 : List Int) (l1 : List Int) : Option (List Int × Int) := (nat_form.f k (([l0, l1] : List (List Int)))).bind fun t581 => (if t581 = 0 then ((nat_mul.f k l0 l1).bind fun t582 => (some (t582, 0))) else (some (([] : List Int), t581)))
theorem nat_Mul.mono : ∀ a0 a1 k, LeO (nat_Mul.f k a0 a1) (nat_Mul.f (k + 1) a0 a1) := by
  intro a0 a1 k
  unfold nat_Mul.f
  repeat' first
      | (with_reducible exact nat_form.mono _ _)
      | (with_reducible exact nat_mul.mono _ _ _)
      | (with_reducible exact LeO.refl _)
      | (with_reducible exact LeO.none _)
      | (with_reducible refine LeO.ite ?_ ?_)
      | (with_reducible refine LeO.bind ?_ (fun _ => ?_))
      | exact nat_form.mono _ _
      | exact nat_mul.mono _ _ _
      | exact LeO.none _
      | refine LeO.ite ?_ ?_
      | refine LeO.bind ?_ (fun _ => ?_)
def fluxionlaw01_tame.l0 : Nat → List Int → Option (List Int)
  | 0, _ => none
  | k + 1, x5 => if (x5.length : Int) > 0 then (if 0 ≤ (wrap64 ((x5.length : Int) - 1)) then (if (wrap64 ((x5.length : Int) - 1)) < (x5.length : Int) then (if (rd x5 (wrap64 ((x5.length : Int) - 1))) = 0 then (if (wrap64 ((x5.length : Int) - 1)) ≤ (x5.length : Int) then (fluxionlaw01_tame.l0 k (x5.take ((wrap64 ((x5.length : Int) - 1)) : Int).toNat)) else (none)) else (some x5)) else (none)) else (none)) else (some x5)
def fluxionlaw01_tame.f (k : Nat) (l0 : List Int) (a1 : Int) : Option (List Int) := (fluxionlaw01_cut.f l0 a1).bind fun t617 => (fluxionlaw01_tame.l0 k t617)
theorem fluxionlaw01_tame.mono_l : ∀ k, (∀ y0, LeO (fluxionlaw01_tame.l0 k y0) (fluxionlaw01_tame.l0 (k + 1) y0))
  | 0 => fun _ r h => by simp [fluxionlaw01_tame.l0] at h
  | k + 1 => by
    have ih0 := fluxionlaw01_tame.mono_l k
    · intro y0
      unfold fluxionlaw01_tame.l0
      repeat' first
      | (with_reducible exact ih0 _)
      | (with_reducible exact LeO.refl _)
      | (with_reducible exact LeO.none _)
      | (with_reducible refine LeO.ite ?_ ?_)
      | (with_reducible refine LeO.bind ?_ (fun _ => ?_))
      | exact ih0 _
      | exact LeO.none _
      | refine LeO.ite ?_ ?_
      | refine LeO.bind ?_ (fun _ => ?_)
theorem fluxionlaw01_tame.mono : ∀ a0 a1 k, LeO (fluxionlaw01_tame.f k a0 a1) (fluxionlaw01_tame.f (k + 1) a0 a1) := by
  intro a0 a1 k
  have ih0 := fluxionlaw01_tame.mono_l k
  unfold fluxionlaw01_tame.f
  repeat' first
      | (with_reducible exact ih0 _)
      | (with_reducible exact LeO.refl _)
      | (with_reducible exact LeO.none _)
      | (with_reducible refine LeO.ite ?_ ?_)
      | (with_reducible refine LeO.bind ?_ (fun _ => ?_))
      | exact ih0 _
      | exact LeO.none _
      | refine LeO.ite ?_ ?_
      | refine LeO.bind ?_ (fun _ => ?_)
def fluxionlaw01_product.f (k : Nat) (l0 : List Int) (l1 : List Int) : Option (List Int × Bool) := (nat_Mul.f k l0 l1).bind fun bt624 => (some (bt624.1, (bt624.2 == 0)))
theorem fluxionlaw01_product.mono : ∀ a0 a1 k, LeO (fluxionlaw01_product.f k a0 a1) (fluxionlaw01_product.f (k + 1) a0 a1) := by
  intro a0 a1 k
  unfold fluxionlaw01_product.f
  repeat' first
      | (with_reducible exact nat_Mul.mono _ _ _)
      | (with_reducible exact LeO.refl _)
      | (with_reducible exact LeO.none _)
      | (with_reducible refine LeO.ite ?_ ?_)
      | (with_reducible refine LeO.bind ?_ (fun _ => ?_))
      | exact nat_Mul.mono _ _ _
      | exact LeO.none _
      | refine LeO.ite ?_ ?_
      | refine LeO.bind ?_ (fun _ => ?_)
def nat_IsNat.f (k : Nat) (l0 : List Int) : Option (Bool) := (nat_form.f k (([l0] : List (List Int)))).bind fun t717 => (some (t717 == 0))
theorem nat_IsNat.mono : ∀ a0 k, LeO (nat_IsNat.f k a0) (nat_IsNat.f (k + 1) a0) := by
  intro a0 k
  unfold nat_IsNat.f
  repeat' first
      | (with_reducible exact nat_form.mono _ _)
      | (with_reducible exact LeO.refl _)
      | (with_reducible exact LeO.none _)
      | (with_reducible refine LeO.ite ?_ ?_)
      | (with_reducible refine LeO.bind ?_ (fun _ => ?_))
      | exact nat_form.mono _ _
      | exact LeO.none _
      | refine LeO.ite ?_ ?_
      | refine LeO.bind ?_ (fun _ => ?_)
def nat_Compare.f (k : Nat) (l0 : List Int) (l1 : List Int) : Option (Int × Int) := (nat_form.f k (([l0, l1] : List (List Int)))).bind fun t764 => (if t764 = 0 then ((nat_compare.f k l0 l1).bind fun t765 => (some (t765, 0))) else (some (0, t764)))
theorem nat_Compare.mono : ∀ a0 a1 k, LeO (nat_Compare.f k a0 a1) (nat_Compare.f (k + 1) a0 a1) := by
  intro a0 a1 k
  unfold nat_Compare.f
  repeat' first
      | (with_reducible exact nat_compare.mono _ _ _)
      | (with_reducible exact nat_form.mono _ _)
      | (with_reducible exact LeO.refl _)
      | (with_reducible exact LeO.none _)
      | (with_reducible refine LeO.ite ?_ ?_)
      | (with_reducible refine LeO.bind ?_ (fun _ => ?_))
      | exact nat_compare.mono _ _ _
      | exact nat_form.mono _ _
      | exact LeO.none _
      | refine LeO.ite ?_ ?_
      | refine LeO.bind ?_ (fun _ => ?_)
def nat_Add.f (k : Nat) (l0 : List Int) (l1 : List Int) : Option (List Int × Int) := (nat_form.f k (([l0, l1] : List (List Int)))).bind fun t799 => (if t799 = 0 then ((nat_add.f k l0 l1).bind fun t800 => (some (t800, 0))) else (some (([] : List Int), t799)))
theorem nat_Add.mono : ∀ a0 a1 k, LeO (nat_Add.f k a0 a1) (nat_Add.f (k + 1) a0 a1) := by
  intro a0 a1 k
  unfold nat_Add.f
  repeat' first
      | (with_reducible exact nat_add.mono _ _ _)
      | (with_reducible exact nat_form.mono _ _)
      | (with_reducible exact LeO.refl _)
      | (with_reducible exact LeO.none _)
      | (with_reducible refine LeO.ite ?_ ?_)
      | (with_reducible refine LeO.bind ?_ (fun _ => ?_))
      | exact nat_add.mono _ _ _
      | exact nat_form.mono _ _
      | exact LeO.none _
      | refine LeO.ite ?_ ?_
      | refine LeO.bind ?_ (fun _ => ?_)
def nat_sub.l0 : Nat → List Int → List Int → List Int → Int → Int → Int → Option (List Int)
  | 0, _, _, _, _, _, _ => none
  | k + 1, x0, x1, x5, x6, x13, x14 => if x14 < x13 then ((nat_at.f x0 x14).bind fun t806 => ((nat_at.f x1 x14).bind fun t807 => (if x5.length < 35184372088832 then (nat_sub.l0 k x0 x1 (x5 ++ [(IntKind.u64.wrap ((IntKind.u64.wrap (t806 - t807)) - x6)) % 4294967296]) ((IntKind.u64.wrap ((IntKind.u64.wrap (t806 - t807)) - x6)) / 9223372036854775808) x13 (wrap64 (x14 + 1))) else (none)))) else ((nat_trim.f k x5).bind fun t811 => (some t811))
def nat_sub.f (k : Nat) (l0 : List Int) (l1 : List Int) : Option (List Int) := if 0 ≤ (l0.length : Int) then (if (l0.length : Int) ≤ 70368744177664 then (nat_sub.l0 k l0 l1 (([] : List Int)) 0 (l0.length : Int) 0) else (none)) else (none)
theorem nat_sub.mono_l : ∀ k, (∀ y0 y1 y2 y3 y4 y5, LeO (nat_sub.l0 k y0 y1 y2 y3 y4 y5) (nat_sub.l0 (k + 1) y0 y1 y2 y3 y4 y5))
  | 0 => fun _ _ _ _ _ _ r h => by simp [nat_sub.l0] at h
  | k + 1 => by
    have ih0 := nat_sub.mono_l k
    · intro y0 y1 y2 y3 y4 y5
      unfold nat_sub.l0
      repeat' first
      | (with_reducible exact ih0 _ _ _ _ _ _)
      | (with_reducible exact nat_trim.mono _ _)
      | (with_reducible exact LeO.refl _)
      | (with_reducible exact LeO.none _)
      | (with_reducible refine LeO.ite ?_ ?_)
      | (with_reducible refine LeO.bind ?_ (fun _ => ?_))
      | exact ih0 _ _ _ _ _ _
      | exact nat_trim.mono _ _
      | exact LeO.none _
      | refine LeO.ite ?_ ?_
      | refine LeO.bind ?_ (fun _ => ?_)
theorem nat_sub.mono : ∀ a0 a1 k, LeO (nat_sub.f k a0 a1) (nat_sub.f (k + 1) a0 a1) := by
  intro a0 a1 k
  have ih0 := nat_sub.mono_l k
  unfold nat_sub.f
  repeat' first
      | (with_reducible exact ih0 _ _ _ _ _ _)
      | (with_reducible exact nat_trim.mono _ _)
      | (with_reducible exact LeO.refl _)
      | (with_reducible exact LeO.none _)
      | (with_reducible refine LeO.ite ?_ ?_)
      | (with_reducible refine LeO.bind ?_ (fun _ => ?_))
      | exact ih0 _ _ _ _ _ _
      | exact nat_trim.mono _ _
      | exact LeO.none _
      | refine LeO.ite ?_ ?_
      | refine LeO.bind ?_ (fun _ => ?_)
def nat_Sub.f (k : Nat) (l0 : List Int) (l1 : List Int) : Option (List Int × Int) := (nat_form.f k (([l0, l1] : List (List Int)))).bind fun t817 => (if t817 = 0 then ((nat_compare.f k l0 l1).bind fun t818 => (if t818 < 0 then (some (([] : List Int), 4)) else ((nat_sub.f k l0 l1).bind fun t819 => (some (t819, 0))))) else (some (([] : List Int), t817)))
theorem nat_Sub.mono : ∀ a0 a1 k, LeO (nat_Sub.f k a0 a1) (nat_Sub.f (k + 1) a0 a1) := by
  intro a0 a1 k
  unfold nat_Sub.f
  repeat' first
      | (with_reducible exact nat_compare.mono _ _ _)
      | (with_reducible exact nat_form.mono _ _)
      | (with_reducible exact nat_sub.mono _ _ _)
      | (with_reducible exact LeO.refl _)
      | (with_reducible exact LeO.none _)
      | (with_reducible refine LeO.ite ?_ ?_)
      | (with_reducible refine LeO.bind ?_ (fun _ => ?_))
      | exact nat_compare.mono _ _ _
      | exact nat_form.mono _ _
      | exact nat_sub.mono _ _ _
      | exact LeO.none _
      | refine LeO.ite ?_ ?_
      | refine LeO.bind ?_ (fun _ => ?_)
def fluxionlaw01_sum.f (k : Nat) (l0 : List Int) (l1 : List Int) : Option (List Int × Bool) := (nat_Add.f k l0 l1).bind fun bt854 => (some (bt854.1, (bt854.2 == 0)))
theorem fluxionlaw01_sum.mono : ∀ a0 a1 k, LeO (fluxionlaw01_sum.f k a0 a1) (fluxionlaw01_sum.f (k + 1) a0 a1) := by
  intro a0 a1 k
  unfold fluxionlaw01_sum.f
  repeat' first
      | (with_reducible exact nat_Add.mono _ _ _)
      | (with_reducible exact LeO.refl _)
      | (with_reducible exact LeO.none _)
      | (with_reducible refine LeO.ite ?_ ?_)
      | (with_reducible refine LeO.bind ?_ (fun _ => ?_))
      | exact nat_Add.mono _ _ _
      | exact LeO.none _
      | refine LeO.ite ?_ ?_
      | refine LeO.bind ?_ (fun _ => ?_)

end Go.Proofs.Ytceglknbonfdeaa.PNat
