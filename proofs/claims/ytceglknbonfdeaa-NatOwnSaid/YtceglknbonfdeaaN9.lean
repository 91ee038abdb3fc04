/- The reference's division, bit by bit: how many bits, one bit, twice, and the loop. No program. -/
import Derived.Test.YtceglknbonfdeaaN7d
import Derived.Test.YtceglknbonfdeaaN8
namespace Go.Proofs.Ytceglknbonfdeaa.PNat
open Go.RowKit Go.Proofs.YtceglknbonfdeaaW.PrintWords Go.Proofs.YtceglknbonfdeaaW.PrintLast Go.Proofs.YtceglknbonfdeaaW.PrintMore
set_option linter.unusedVariables false

theorem tdiv_nat (i : Nat) (n : Nat) : Int.tdiv (i : Int) (n : Int) = ((i / n : Nat) : Int) := by
  rw [Int.tdiv_eq_ediv_of_nonneg (by omega)]
  exact_mod_cast rfl
theorem tmod_nat (i : Nat) (n : Nat) : Int.tmod (i : Int) (n : Int) = ((i % n : Nat) : Int) := by
  rw [Int.tmod_eq_emod_of_nonneg (by omega)]
  exact_mod_cast rfl
theorem w64n {n : Nat} (h : n ≤ 100000000) : wrap64 (n : Int) = (n : Int) := w64 (by omega) (by omega)
theorem td32 {n : Nat} (h : n ≤ 2000000) : wrap64 (Int.tdiv (n : Int) 32) = ((n / 32 : Nat) : Int) := by
  rw [show (32 : Int) = ((32 : Nat) : Int) from rfl, tdiv_nat, w64n (by omega)]
theorem tm32 (n : Nat) : Int.tmod (n : Int) 32 = ((n % 32 : Nat) : Int) := by
  rw [show (32 : Int) = ((32 : Nat) : Int) from rfl, tmod_nat]
/-! ### the division -/
theorem shl32_one {n : Nat} (hn : n < 32) : shl .u32 1 (n : Int) = 2 ^ n := by
  have h0 := two_pos n
  have h1 := two_le hn
  unfold shl
  rw [Int.toNat_natCast, Nat.min_eq_left (show n ≤ IntKind.u32.bits by simp only [IntKind.bits]; omega), Int.one_mul, u32_eq (by omega) (by omega)]
end Go.Proofs.Ytceglknbonfdeaa.PNat
