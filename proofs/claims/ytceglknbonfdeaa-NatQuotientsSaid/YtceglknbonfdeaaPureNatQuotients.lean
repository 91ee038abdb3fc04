/- The law of quotients, with no program: the quotient and the rest are the reference's, found bit by bit. -/
import Derived.Test.YtceglknbonfdeaaN9
import Derived.Test.YtceglknbonfdeaaDNatQuotients
namespace Go.Proofs.Ytceglknbonfdeaa.Pure
open Go.RowKit Go.Proofs.YtceglknbonfdeaaW.PrintWords Go.Proofs.YtceglknbonfdeaaW.PrintLast Go.Proofs.YtceglknbonfdeaaW.PrintMore PNat
set_option linter.unusedVariables false
theorem NatQuotients : fluxionlaw01_NatQuotients.Pure := by
  intro l0 l1 _ _ w0 _ _ w1
  have dx := dig_take (dig_wf w0) 516
  have dy := dig_take (dig_wf w1) 516
  have sx := take_le l0 516
  have sy := take_le l1 516
  have tx := cut_eq l0 516 (by omega)
  have ty := cut_eq l1 516 (by omega)
  generalize l0.take 516 = x at *
  generalize l1.take 516 = y at *
  refine ev_out (r := true) ?_
  unfold fluxionlaw01_NatQuotients.f
  refine ev_val tx (ev_val ty ?_)
  have hb := both_eq x y (by omega) (by omega)
  have sx2 : x.length ≤ 1000000 := by omega
  have sy2 : y.length ≤ 1000000 := by omega
  by_cases h : fE2 x y = 0
  · obtain ⟨⟨sx', cx⟩, sy', cy⟩ := (fE2_zero dx dy).1 h
    have vx := val_nonneg dx
    by_cases h0 : y.length = 0
    · have e0 : ((y.length : Int) == 0) = true := by rw [h0]; rfl
      refine Ev.bind (Div_zero cx cy sx' sy' h0) (ev_val hb (ev_if h ?_))
      rw [e0, h]
      refine ev_succ ?_
      simp only [fluxionlaw01_NatQuotients.j0]
      refine ev_if (by decide) (ev_succ ?_)
      simp only [fluxionlaw01_NatQuotients.j1]
      exact ev_else (by decide) (Ev.bind (is_bad (by decide) _) (ev_if rfl (ev_if rfl (ev_val alive_true (ev_some _)))))
    · have hp : 0 < y.length := by omega
      have hd := cy.pos hp
      have e0 : ((y.length : Int) == 0) = false := by
        rw [beq_eq_false_iff_ne]
        omega
      have q0 : 0 ≤ val x / val y := Int.ediv_nonneg vx (by omega)
      have q1 : val x / val y ≤ val x := Int.ediv_le_self _ vx
      have r0 : 0 ≤ val x % val y := Int.emod_nonneg _ (by omega)
      have r1 : val x % val y < val y := Int.emod_lt_of_pos _ hd
      have bx := val_512 dx sx
      have by' := val_512 dy sy
      have lq : (num (val x / val y)).length ≤ 516 := num_len q0 (by omega)
      have lr : (num (val x % val y)).length ≤ 516 := num_len r0 (by omega)
      refine Ev.bind (Div_ok cx cy sx' sy' hp) (ev_val hb (ev_if h ?_))
      rw [e0, h]
      refine ev_succ ?_
      simp only [fluxionlaw01_NatQuotients.j0]
      refine ev_else (by decide) (ev_succ ?_)
      simp only [fluxionlaw01_NatQuotients.j1]
      exact ev_if (by decide) (Ev.bind (rdiv_f cx cy hp (by omega) (by omega)) (Ev.bind (is_ok rfl (show (num (val x / val y)).length ≤ 1000000 by omega)) (ev_if rfl (Ev.bind (same_true rfl (show (num (val x % val y)).length ≤ 1000000 by omega)) (ev_if rfl (ev_val alive_true (ev_some _)))))))
  · refine Ev.bind (Div_bad sx2 sy2 h) (ev_val hb (ev_else h ?_))
    have hj : Ev (fun k => fluxionlaw01_NatQuotients.j1 k x y [] [] (fE2 x y) (fE2 x y)) true := by
      refine ev_succ ?_
      simp only [fluxionlaw01_NatQuotients.j1]
      exact ev_else h (Ev.bind (is_bad h _) (ev_if rfl (ev_if rfl (ev_val alive_true (ev_some _)))))
    refine ev_succ ?_
    simp only [fluxionlaw01_NatQuotients.j0]
    exact ev_else (by decide) hj
end Go.Proofs.Ytceglknbonfdeaa.Pure
