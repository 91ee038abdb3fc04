/- The law of division, with no program: the quotient times the divisor, and the rest, is the number. -/
import Derived.Test.YtceglknbonfdeaaN7
import Derived.Test.YtceglknbonfdeaaDNatDivision
namespace Go.Proofs.Ytceglknbonfdeaa.Pure
open Go.RowKit Go.Proofs.YtceglknbonfdeaaW.PrintWords Go.Proofs.YtceglknbonfdeaaW.PrintLast Go.Proofs.YtceglknbonfdeaaW.PrintMore PNat
set_option linter.unusedVariables false
theorem NatDivision : fluxionlaw01_NatDivision.Pure := by
  intro l0 l1 _ _ w0 _ _ w1
  obtain ⟨cx, sx⟩ := tame_ok w0 512
  obtain ⟨cy, sy⟩ := tame_ok w1 512
  have tx := tame_f l0 512 (by omega)
  have ty := tame_f l1 512 (by omega)
  generalize tr (l0.take 512) = x at *
  generalize tr (l1.take 512) = y at *
  refine ev_out (r := true) ?_
  unfold fluxionlaw01_NatDivision.f
  refine Ev.bind tx (Ev.bind ty ?_)
  by_cases h0 : y.length = 0
  · refine Ev.bind (Div_zero cx cy sx sy h0) (ev_if (by omega) (ev_if rfl (ev_if rfl (ev_if rfl ?_))))
    exact ev_val alive_true (ev_some _)
  · have hp : 0 < y.length := by omega
    have hv := val_nonneg cx.1
    have hd := cy.pos hp
    have q0 : 0 ≤ val x / val y := Int.ediv_nonneg hv (by omega)
    have q1 : val x / val y ≤ val x := Int.ediv_le_self _ hv
    have r0 : 0 ≤ val x % val y := Int.emod_nonneg _ (by omega)
    have r1 : val x % val y < val y := Int.emod_lt_of_pos _ hd
    have e := Int.mul_ediv_add_emod (val x) (val y)
    have m0 : 0 ≤ val y * (val x / val y) := Int.mul_nonneg (by omega) q0
    rw [Int.mul_comm] at e m0
    have dv := Div_ok cx cy sx sy hp
    generalize val x / val y = q at *
    generalize val x % val y = r at *
    have bx := val_512 cx.1 sx
    have by' := val_512 cy.1 sy
    have lq : (num q).length ≤ 512 := num_len q0 (by omega)
    have lr : (num r).length ≤ 512 := num_len r0 (by omega)
    have lm : (num (q * val y)).length ≤ 512 := num_len m0 (by omega)
    have lqx : (num q).length ≤ x.length := le_len cx.1 (num_canon q0) (by rw [num_val q0]; exact q1)
    refine Ev.bind dv (ev_else (by omega) (ev_if rfl ?_))
    have i1 := IsNat_f (x := num q) (by omega)
    have i2 := IsNat_f (x := num r) (by omega)
    rw [fE_ok lq (num_canon q0)] at i1
    rw [fE_ok lr (num_canon r0)] at i2
    refine Ev.bind i1 (ev_if rfl (Ev.bind i2 (ev_if rfl ?_)))
    refine Ev.step (fun k => by rw [fluxionlaw01_NatDivision.j0]) (ev_else (by rw [decide_eq_true_iff]; show ¬ ((num q).length : Int) > _; omega) ?_)
    have c1 := Compare_ok (num_canon r0) cy lr sy
    rw [num_val r0, cmpI_lt r1] at c1
    have p1 := product_ok (num_canon q0) cy lq sy
    rw [num_val q0] at p1
    refine Ev.bind c1 (Ev.bind p1 (ev_if rfl (ev_if rfl (ev_if rfl ?_))))
    refine Ev.step (fun k => by rw [fluxionlaw01_NatDivision.j1]) (ev_else (by rw [decide_eq_true_iff]; show ¬ ((num (q * val y)).length : Int) > _; omega) ?_)
    have s1 := sum_ok (num_canon m0) (num_canon r0) lm lr
    rw [num_val m0, num_val r0, e, num_of cx] at s1
    exact Ev.bind s1 (ev_if rfl (Ev.bind (same_true rfl (show x.length ≤ 1000000 by omega)) (ev_if rfl (ev_val alive_true (ev_some _)))))
end Go.Proofs.Ytceglknbonfdeaa.Pure
