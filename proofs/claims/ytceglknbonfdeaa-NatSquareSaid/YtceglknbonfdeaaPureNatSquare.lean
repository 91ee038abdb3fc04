/- The law of squares, with no program: the root's square is not above the number, the next one's is, and the root of a square is the number. -/
import Derived.Test.YtceglknbonfdeaaN11
import Derived.Test.YtceglknbonfdeaaDNatSquare
namespace Go.Proofs.Ytceglknbonfdeaa.Pure
open Go.RowKit Go.Proofs.YtceglknbonfdeaaW.PrintWords Go.Proofs.YtceglknbonfdeaaW.PrintLast Go.Proofs.YtceglknbonfdeaaW.PrintMore PNat
set_option linter.unusedVariables false
theorem lt_of_sq {a b : Int} (ha : 0 ≤ a) (hb : 0 ≤ b) (h : a * a < b * b) : a < b := by
  rcases Int.lt_or_le a b with h1 | h1
  · exact h1
  · have := sq_mono hb h1
    omega
theorem NatSquare : fluxionlaw01_NatSquare.Pure := by
  intro l0 _ _ w0
  obtain ⟨cx, sx⟩ := tame_ok w0 200
  have tx := tame_f l0 200 (by omega)
  generalize tr (l0.take 200) = x at *
  refine ev_out (r := true) ?_
  unfold fluxionlaw01_NatSquare.f
  obtain ⟨s, hr, hR⟩ := Root_ok cx (by omega)
  have vx := val_nonneg cx.1
  have bx := val_512 cx.1 sx
  obtain ⟨s0, s1, s2⟩ := id hr
  have e200 : pw 200 = pw 100 * pw 100 := pw_add 100 100
  have e101 : pw 101 = 4294967296 * pw 100 := pw_succ 100
  have e201 : pw 201 = 4294967296 * pw 200 := pw_succ 200
  have e400 : pw 400 = pw 200 * pw 200 := pw_add 200 200
  have p100 := pw_pos 100
  have p200 := pw_pos 200
  have hs : s < pw 100 := lt_of_sq s0 (by omega) (by omega)
  have ls : (num s).length ≤ 100 := num_len s0 hs
  have q0 : 0 ≤ s * s := Int.mul_nonneg s0 s0
  have lss : (num (s * s)).length ≤ 200 := num_len q0 (by omega)
  have ln : (num (s + 1)).length ≤ 101 := num_len (by omega) (by omega)
  have n0 : 0 ≤ (s + 1) * (s + 1) := by omega
  have nb : (s + 1) * (s + 1) ≤ pw 100 * pw 100 := sq_mono (by omega) (by omega)
  have lnn : (num ((s + 1) * (s + 1))).length ≤ 201 := num_len n0 (by omega)
  have x0 : 0 ≤ val x * val x := Int.mul_nonneg vx vx
  have lxx : (num (val x * val x)).length ≤ 400 := by
    have := val_mul_lt cx.1 cx.1
    have := pw_mono (show x.length + x.length ≤ 400 by omega)
    exact num_len x0 (by omega)
  have hsum := sum_ok (num_canon s0) (show Canon [1] from ⟨dig_cons.2 ⟨by omega, dig_nil⟩, .inr (by decide)⟩) (by omega) (by decide)
  rw [num_val s0, show val [1] = 1 from rfl] at hsum
  have hss := product_ok (num_canon s0) (num_canon s0) (by omega) (by omega)
  rw [num_val s0] at hss
  have hnn := product_ok (num_canon (show 0 ≤ s + 1 by omega)) (num_canon (show 0 ≤ s + 1 by omega)) (by omega) (by omega)
  rw [num_val (by omega)] at hnn
  have hxx := product_ok cx cx (by omega) (by omega)
  have hc1 := Compare_ok (num_canon q0) cx (by omega) (by omega)
  rw [num_val q0] at hc1
  have hc2 := Compare_ok (num_canon n0) cx (by omega) (by omega)
  rw [num_val n0, cmpI_gt s2] at hc2
  obtain ⟨t, ht, hT⟩ := Root_ok (num_canon x0) (by omega)
  rw [num_val x0] at ht
  have htx : IsRoot (val x * val x) (val x) := ⟨vx, Int.le_refl _, by
    have : (val x + 1) * (val x + 1) = val x * val x + 2 * val x + 1 := by grind
    omega⟩
  obtain rfl := ht.eq htx
  rw [num_of cx] at hT
  have j3 : Ev (fun k => fluxionlaw01_NatSquare.j3 k x (num (val x * val x)) (decide (((num (val x * val x)).length : Int) > 400))) true := by
    refine ev_succ ?_
    simp only [fluxionlaw01_NatSquare.j3]
    exact ev_else (by rw [decide_eq_true_iff]; omega) (Ev.bind hT (ev_if rfl (Ev.bind (same_true rfl (show x.length ≤ 1000000 by omega)) (ev_if rfl (ev_val alive_true (ev_some _))))))
  have j2 : Ev (fun k => fluxionlaw01_NatSquare.j2 k x (num (s * s)) (num ((s + 1) * (s + 1))) (decide (((num ((s + 1) * (s + 1))).length : Int) > 204))) true := by
    refine ev_succ ?_
    simp only [fluxionlaw01_NatSquare.j2]
    exact ev_else (by rw [decide_eq_true_iff]; omega) (Ev.bind hc1 (Ev.bind hc2 (Ev.bind hxx (ev_if rfl (ev_if rfl (ev_else (fun c => by have := cmpI_pos.1 c; omega) (ev_if rfl (ev_if rfl j3))))))))
  have j1 : Ev (fun k => fluxionlaw01_NatSquare.j1 k x (num (s + 1)) (num (s * s)) (decide (((num (s * s)).length : Int) > 204))) true := by
    refine ev_succ ?_
    simp only [fluxionlaw01_NatSquare.j1]
    exact ev_else (by rw [decide_eq_true_iff]; omega) (Ev.bind hnn (ev_if rfl j2))
  have j0 : Ev (fun k => fluxionlaw01_NatSquare.j0 k x (num s) (decide (((num s).length : Int) > 101))) true := by
    refine ev_succ ?_
    simp only [fluxionlaw01_NatSquare.j0]
    exact ev_else (by rw [decide_eq_true_iff]; omega) (Ev.bind hsum (Ev.bind hss (ev_if rfl (ev_if rfl (ev_else (show ¬ ((num (s + 1)).length : Int) > 102 by omega) j1)))))
  exact Ev.bind tx (Ev.bind hR (ev_if rfl j0))
end Go.Proofs.Ytceglknbonfdeaa.Pure
