/- The law of sums and differences, with no program: comparing, adding and taking away answer as the reference does. -/
import Derived.Test.YtceglknbonfdeaaN8
import Derived.Test.YtceglknbonfdeaaDNatSums
namespace Go.Proofs.Ytceglknbonfdeaa.Pure
open Go.RowKit Go.Proofs.YtceglknbonfdeaaW.PrintWords Go.Proofs.YtceglknbonfdeaaW.PrintLast Go.Proofs.YtceglknbonfdeaaW.PrintMore PNat
set_option linter.unusedVariables false
theorem NatSums : fluxionlaw01_NatSums.Pure := by
  intro l0 l1 _ _ w0 _ _ w1
  have dx := dig_take (dig_wf w0) 516
  have dy := dig_take (dig_wf w1) 516
  have sx := take_le l0 516
  have sy := take_le l1 516
  have tx := cut_eq l0 516 (by omega)
  have ty := cut_eq l1 516 (by omega)
  generalize l0.take 516 = x at *
  generalize l1.take 516 = y at *
  refine ev_out (r := true) ?_
  unfold fluxionlaw01_NatSums.f
  refine ev_val tx (ev_val ty ?_)
  have hb := both_eq x y (by omega) (by omega)
  have sx2 : x.length ≤ 1000000 := by omega
  have sy2 : y.length ≤ 1000000 := by omega
  by_cases h : fE2 x y = 0
  · obtain ⟨⟨sx', cx⟩, sy', cy⟩ := (fE2_zero dx dy).1 h
    have vx := val_nonneg dx
    have vy := val_nonneg dy
    have bx := val_512 dx sx
    have by' := val_512 dy sy
    have e : pw 517 = 4294967296 * pw 516 := pw_succ 516
    have la : (num (val x + val y)).length ≤ 517 := num_len (by omega) (by omega)
    refine Ev.bind (Compare_ok cx cy sx' sy') (Ev.bind (Add_ok cx cy sx' sy') ?_)
    rcases Int.lt_or_le (val x) (val y) with hlt | hle
    · refine Ev.bind (Sub_low cx cy sx' sy' hlt) (ev_val hb (ev_if h (Ev.bind (rcompare_f cx cy sx2) (ev_if rfl (ev_if rfl (Ev.bind (radd_f dx dy (by omega) (by omega)) (Ev.bind (is_ok rfl (show (num (val x + val y)).length ≤ 1000000 by omega)) ?_)))))))
      refine Ev.step (fun k => by rw [fluxionlaw01_NatSums.j0]) (ev_else (by decide) (ev_if (cmpI_neg.2 hlt) ?_))
      exact Ev.bind (is_bad (by decide) _) (ev_if rfl (ev_val alive_true (ev_some _)))
    · have ls : (num (val x - val y)).length ≤ 516 := num_len (by omega) (by omega)
      refine Ev.bind (Sub_ok cx cy sx' sy' hle) (ev_val hb (ev_if h (Ev.bind (rcompare_f cx cy sx2) (ev_if rfl (ev_if rfl (Ev.bind (radd_f dx dy (by omega) (by omega)) (Ev.bind (is_ok rfl (show (num (val x + val y)).length ≤ 1000000 by omega)) ?_)))))))
      refine Ev.step (fun k => by rw [fluxionlaw01_NatSums.j0]) (ev_else (by decide) (ev_else (fun c => by have := cmpI_neg.1 c; omega) ?_))
      exact Ev.bind (rsub_f dx dy sx2 (le_len dx cy hle) hle) (Ev.bind (is_ok rfl (show (num (val x - val y)).length ≤ 1000000 by omega)) (ev_if rfl (ev_val alive_true (ev_some _))))
  · refine Ev.bind (Compare_bad sx2 sy2 h) (Ev.bind (Add_bad sx2 sy2 h) (Ev.bind (Sub_bad sx2 sy2 h) (ev_val hb (ev_else h (ev_if rfl (ev_if rfl ?_))))))
    exact Ev.bind (is_bad h _) (ev_if rfl (Ev.bind (is_bad h _) (ev_if rfl (ev_val alive_true (ev_some _)))))
end Go.Proofs.Ytceglknbonfdeaa.Pure
