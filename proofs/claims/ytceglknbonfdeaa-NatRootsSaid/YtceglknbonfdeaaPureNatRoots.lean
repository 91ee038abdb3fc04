/- The law of square roots, with no program: the root by Newton's steps is the one by pairs of bits. -/
import Derived.Test.YtceglknbonfdeaaN11
import Derived.Test.YtceglknbonfdeaaDNatRoots
namespace Go.Proofs.Ytceglknbonfdeaa.Pure
open Go.RowKit Go.Proofs.YtceglknbonfdeaaW.PrintWords Go.Proofs.YtceglknbonfdeaaW.PrintLast Go.Proofs.YtceglknbonfdeaaW.PrintMore PNat
set_option linter.unusedVariables false
theorem NatRoots : fluxionlaw01_NatRoots.Pure := by
  intro l0 _ _ w0
  have dx := dig_take (dig_wf w0) 516
  have sx := take_le l0 516
  have tx := cut_eq l0 516 (by omega)
  generalize l0.take 516 = x at *
  refine ev_out (r := true) ?_
  unfold fluxionlaw01_NatRoots.f
  refine ev_val tx ?_
  have hb := valid_eq x (by omega)
  by_cases h : fE x = 0
  · obtain ⟨sx', cx⟩ := (fE_zero dx).1 h
    obtain ⟨s, h1, h2⟩ := Root_ok cx sx'
    obtain ⟨t, h3, h4⟩ := rroot_f cx sx'
    obtain rfl := h1.eq h3
    have lm : (num s).length ≤ 516 := num_len h1.1 (by have := h1.le; have := val_512 dx sx; omega)
    refine Ev.bind h2 (ev_val hb (ev_if h (Ev.bind h4 ?_)))
    exact Ev.bind (is_ok rfl (show (num s).length ≤ 1000000 by omega)) (ev_if rfl (ev_val alive_true (ev_some _)))
  · have hbad : Ev (fun k => nat_Root.f k x) ([], fE x) := by
      unfold nat_Root.f
      exact Ev.bind (form1 x (by omega)) (ev_else h (ev_some _))
    refine Ev.bind hbad (ev_val hb (ev_else h ?_))
    exact Ev.bind (is_bad h _) (ev_if rfl (ev_val alive_true (ev_some _)))
end Go.Proofs.Ytceglknbonfdeaa.Pure
