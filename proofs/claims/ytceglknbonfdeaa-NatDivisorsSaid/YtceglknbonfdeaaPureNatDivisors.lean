/- The law of divisors, with no program: the greatest common divisor by Euclid's steps is the one by halves. -/
import Derived.Test.YtceglknbonfdeaaN10
import Derived.Test.YtceglknbonfdeaaDNatDivisors
namespace Go.Proofs.Ytceglknbonfdeaa.Pure
open Go.RowKit Go.Proofs.YtceglknbonfdeaaW.PrintWords Go.Proofs.YtceglknbonfdeaaW.PrintLast Go.Proofs.YtceglknbonfdeaaW.PrintMore PNat
set_option linter.unusedVariables false
theorem NatDivisors : fluxionlaw01_NatDivisors.Pure := by
  intro l0 l1 _ _ w0 _ _ w1
  have dx := dig_take (dig_wf w0) 516
  have dy := dig_take (dig_wf w1) 516
  have sx := take_le l0 516
  have sy := take_le l1 516
  have tx := cut_eq l0 516 (by omega)
  have ty := cut_eq l1 516 (by omega)
  generalize l0.take 516 = x at *
  generalize l1.take 516 = y at *
  refine ev_out (r := true) ?_
  unfold fluxionlaw01_NatDivisors.f
  refine ev_val tx (ev_val ty ?_)
  have hb := both_eq x y (by omega) (by omega)
  by_cases h : fE2 x y = 0
  · obtain ⟨⟨sx', cx⟩, sy', cy⟩ := (fE2_zero dx dy).1 h
    have lm : (num (gI (val x) (val y))).length ≤ 516 := by
      have vx := val_nonneg dx
      have vy := val_nonneg dy
      refine num_len (gI_nonneg _ _) ?_
      have bx := val_512 dx sx
      have by' := val_512 dy sy
      rcases Int.lt_or_le 0 (val x) with h1 | h1
      · have := gI_le (b := val y) h1
        omega
      · have e : val x = 0 := by omega
        rw [e, gI_comm, gI_zero vy]
        omega
    refine Ev.bind (Gcd_ok cx cy sx' sy') (ev_val hb (ev_if h (Ev.bind (rgcd_f cx cy sx' sy') ?_)))
    exact Ev.bind (is_ok rfl (show (num (gI (val x) (val y))).length ≤ 1000000 by omega)) (ev_if rfl (ev_val alive_true (ev_some _)))
  · refine Ev.bind (Gcd_bad (by omega) (by omega) h) (ev_val hb (ev_else h ?_))
    exact Ev.bind (is_bad h _) (ev_if rfl (ev_val alive_true (ev_some _)))
end Go.Proofs.Ytceglknbonfdeaa.Pure
