/- The law of products, with no program: the product of two numbers is the reference's. -/
import Derived.Test.YtceglknbonfdeaaN8
import Derived.Test.YtceglknbonfdeaaDNatProducts
namespace Go.Proofs.Ytceglknbonfdeaa.Pure
open Go.RowKit Go.Proofs.YtceglknbonfdeaaW.PrintWords Go.Proofs.YtceglknbonfdeaaW.PrintLast Go.Proofs.YtceglknbonfdeaaW.PrintMore PNat
set_option linter.unusedVariables false
theorem NatProducts : fluxionlaw01_NatProducts.Pure := by
  intro l0 l1 _ _ w0 _ _ w1
  have dx := dig_take (dig_wf w0) 516
  have dy := dig_take (dig_wf w1) 516
  have sx := take_le l0 516
  have sy := take_le l1 516
  have tx := cut_eq l0 516 (by omega)
  have ty := cut_eq l1 516 (by omega)
  generalize l0.take 516 = x at *
  generalize l1.take 516 = y at *
  refine ev_out (r := true) ?_
  unfold fluxionlaw01_NatProducts.f
  refine ev_val tx (ev_val ty ?_)
  have hb := both_eq x y (by omega) (by omega)
  by_cases h : fE2 x y = 0
  · obtain ⟨⟨sx', cx⟩, sy', cy⟩ := (fE2_zero dx dy).1 h
    have hm : 0 ≤ val x * val y := Int.mul_nonneg (val_nonneg dx) (val_nonneg dy)
    have lm : (num (val x * val y)).length ≤ x.length + y.length := num_len hm (val_mul_lt dx dy)
    refine Ev.bind (Mul_ok cx cy sx' sy') (ev_val hb (ev_if h (Ev.bind (rmul_f dx dy (by omega)) ?_)))
    exact Ev.bind (is_ok rfl (show (num (val x * val y)).length ≤ 1000000 by omega)) (ev_if rfl (ev_val alive_true (ev_some _)))
  · refine Ev.bind (Mul_bad (by omega) (by omega) h) (ev_val hb (ev_else h ?_))
    exact Ev.bind (is_bad h _) (ev_if rfl (ev_val alive_true (ev_some _)))
end Go.Proofs.Ytceglknbonfdeaa.Pure
