-- Printed by a program for this claim (wip/myprint.sh, wip/patchprint.py, wip/regroup.py)
import Derived.Test.YtceglknbonfdeaaDA
namespace Go.Proofs.Ytceglknbonfdeaa.PNat
open Go.RowKit Go.Proofs.YtceglknbonfdeaaW.PrintWords Go.Proofs.YtceglknbonfdeaaW.PrintLast Go.Proofs.YtceglknbonfdeaaW.PrintMore
set_option linter.unusedVariables false
set_option linter.unusedSimpArgs false

def bits_Len64.f (_k : Nat) (a0 : Int) : Option (Int) := if 0 ≤ a0 then (if a0 ≤ 18446744073709551615 then (some (blen a0)) else (none)) else (none)
def bits_Len.f (k : Nat) (a0 : Int) : Option (Int) := (bits_Len64.f k a0).bind fun t1011 => (some t1011)
mutual
def nat_Power.j0 : Nat → List Int → Int → Bool → Option (List Int × Int)
  | 0, _, _, _ => none
  | k + 1, x0, x1, x16 => if x16 = true then (some (([] : List Int), 2)) else ((nat_size.f x0).bind fun t1016 => (if (wrap64 (t1016 * x1)) > 16384 then (some (([] : List Int), 8)) else ((bits_Len.f k (IntKind.u64.wrap (x1))).bind fun t1020 => (nat_Power.l0 k x0 x1 (([1] : List Int)) (wrap64 (t1020 - 1))))))
def nat_Power.l0 : Nat → List Int → Int → List Int → Int → Option (List Int × Int)
  | 0, _, _, _, _ => none
  | k + 1, x0, x1, x7, x8 => if x8 ≥ 0 then ((nat_mul.f k x7 x7).bind fun t1021 => (if 0 ≤ x8 then (if (Go.bits .and .i64 (shr .i64 x1 x8) 1) = 1 then ((nat_mul.f k t1021 x0).bind fun t1024 => (nat_Power.l0 k x0 x1 t1024 (wrap64 (x8 - 1)))) else (nat_Power.l0 k x0 x1 t1021 (wrap64 (x8 - 1)))) else (none))) else (some (x7, 0))
end
def nat_Power.f (k : Nat) (l0 : List Int) (a1 : Int) : Option (List Int × Int) := (nat_form.f k (([l0] : List (List Int)))).bind fun t1015 => (if t1015 = 0 then (if a1 < 0 then (nat_Power.j0 k l0 a1 true) else (nat_Power.j0 k l0 a1 (decide (a1 > 1000)))) else (some (([] : List Int), t1015)))
end Go.Proofs.Ytceglknbonfdeaa.PNat
