/- What nat.Small computes, by hand: the digits of the list from behind, as slices.Backward hands them out. -/
import Derived.Test.YtceglknbonfdeaaDB
namespace Go.Proofs.Ytceglknbonfdeaa.PNat
open Go.RowKit Go.Proofs.YtceglknbonfdeaaW.PrintWords Go.Proofs.YtceglknbonfdeaaW.PrintLast Go.Proofs.YtceglknbonfdeaaW.PrintMore
set_option linter.unusedVariables false
/-- What slices.Backward has handed out when k rounds are over: the index and the digit. -/
def bwAt (zs : List Int) (k : Nat) : Int × Int := ((zs.length : Int) - 1 - (k : Int), rd zs ((zs.length : Int) - 1 - (k : Int)))
def bws (zs : List Int) (k : Nat) : List (Int × Int) := (List.range k).map (bwAt zs)
theorem bws_succ (zs : List Int) (k : Nat) : bws zs (k + 1) = bws zs k ++ [bwAt zs k] := by simp [bws, List.range_succ]
theorem bws_length (zs : List Int) (k : Nat) : (bws zs k).length = k := by simp [bws]
def smStep (s : Int) (p : Int × Int) : Int := Go.bits .or .u64 (IntKind.u64.wrap (s * 4294967296)) (IntKind.u64.wrap p.2)
def sm (l : List (Int × Int)) : Int := l.foldl smStep 0
theorem sm_snoc (l : List (Int × Int)) (p : Int × Int) : sm (l ++ [p]) = smStep (sm l) p := by simp [sm]
def nat_Small2.f (k : Nat) (l0 : List Int) : Option (Int × Int) := (nat_form.f k (([l0] : List (List Int)))).bind fun t733 => (if t733 = 0 then (if (l0.length : Int) > 2 then (some (0, 4)) else (some (sm (bws l0 l0.length), 0))) else (some (0, t733)))
theorem nat_Small2.mono : ∀ a0 k, LeO (nat_Small2.f k a0) (nat_Small2.f (k + 1) a0) := by
  intro a0 k
  unfold nat_Small2.f
  exact LeO.bind (nat_form.mono _ _) (fun _ => LeO.refl _)
end Go.Proofs.Ytceglknbonfdeaa.PNat
