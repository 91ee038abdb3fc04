/- The ring's laws, with no program: sums and products are commutative and associative, products go into sums, 0 and 1 change nothing, and a sum less one part is the other. -/
import Derived.Test.YtceglknbonfdeaaN7
import Derived.Test.YtceglknbonfdeaaN8
import Derived.Test.YtceglknbonfdeaaDNatRing
namespace Go.Proofs.Ytceglknbonfdeaa.Pure
open Go.RowKit Go.Proofs.YtceglknbonfdeaaW.PrintWords Go.Proofs.YtceglknbonfdeaaW.PrintLast Go.Proofs.YtceglknbonfdeaaW.PrintMore PNat
set_option linter.unusedVariables false
theorem mul_lt_pw {a b : Int} {m n : Nat} (a0 : 0 ≤ a) (a1 : a < pw m) (b0 : 0 ≤ b) (b1 : b < pw n) : 0 ≤ a * b ∧ a * b < pw (m + n) := by
  refine ⟨Int.mul_nonneg a0 b0, ?_⟩
  rw [pw_add]
  have h1 : a * b ≤ a * pw n := Int.mul_le_mul_of_nonneg_left (by omega) a0
  have h2 : a * pw n < pw m * pw n := Int.mul_lt_mul_of_pos_right a1 (pw_pos n)
  omega
theorem NatRing : fluxionlaw01_NatRing.Pure := by
  intro l0 l1 l2 _ _ w0 _ _ w1 _ _ w2
  obtain ⟨cx, sx⟩ := tame_ok w0 100
  obtain ⟨cy, sy⟩ := tame_ok w1 100
  obtain ⟨cz, sz⟩ := tame_ok w2 100
  have tx := tame_f l0 100 (by omega)
  have ty := tame_f l1 100 (by omega)
  have tz := tame_f l2 100 (by omega)
  generalize tr (l0.take 100) = x at *
  generalize tr (l1.take 100) = y at *
  generalize tr (l2.take 100) = z at *
  refine ev_out (r := true) ?_
  unfold fluxionlaw01_NatRing.f
  have vx := val_nonneg cx.1
  have vy := val_nonneg cy.1
  have vz := val_nonneg cz.1
  have bx := val_512 cx.1 sx
  have by' := val_512 cy.1 sy
  have bz := val_512 cz.1 sz
  have e101 : pw 101 = 4294967296 * pw 100 := pw_succ 100
  have p100 := pw_pos 100
  obtain ⟨p0, p1⟩ := mul_lt_pw vx bx vy by'
  obtain ⟨r0, r1⟩ := mul_lt_pw vy by' vz bz
  obtain ⟨s0, s1⟩ := mul_lt_pw vx bx vz bz
  obtain ⟨t0, t1⟩ := mul_lt_pw p0 p1 vz bz
  obtain ⟨u0, u1⟩ := mul_lt_pw vx bx (show 0 ≤ val y + val z by omega) (show val y + val z < pw 101 by omega)
  have lxy : (num (val x + val y)).length ≤ 101 := num_len (by omega) (by omega)
  have lyz : (num (val y + val z)).length ≤ 101 := num_len (by omega) (by omega)
  have lp : (num (val x * val y)).length ≤ 200 := num_len p0 p1
  have lr : (num (val y * val z)).length ≤ 200 := num_len r0 r1
  have ls : (num (val x * val z)).length ≤ 200 := num_len s0 s1
  have lt : (num (val x * val y * val z)).length ≤ 300 := num_len t0 t1
  have lu : (num (val x * (val y + val z))).length ≤ 201 := num_len u0 u1
  have lw : (num (val x + val y + val z)).length ≤ 101 := num_len (by omega) (by omega)
  have hxy := sum_ok cx cy (by omega) (by omega)
  have hyx := sum_ok cy cx (by omega) (by omega)
  rw [Int.add_comm (val y) (val x)] at hyx
  have hyz := sum_ok cy cz (by omega) (by omega)
  have hp := product_ok cx cy (by omega) (by omega)
  have hq := product_ok cy cx (by omega) (by omega)
  rw [Int.mul_comm (val y) (val x)] at hq
  have hr := product_ok cy cz (by omega) (by omega)
  have hl := sum_ok (num_canon (show 0 ≤ val x + val y by omega)) cz (by omega) (by omega)
  rw [num_val (by omega)] at hl
  have hR := sum_ok cx (num_canon (show 0 ≤ val y + val z by omega)) (by omega) (by omega)
  rw [num_val (by omega), ← Int.add_assoc] at hR
  have h1 := product_ok (num_canon p0) cz (by omega) (by omega)
  rw [num_val p0] at h1
  have ho := product_ok cx (num_canon r0) (by omega) (by omega)
  rw [num_val r0, ← Int.mul_assoc] at ho
  have hw := product_ok cx (num_canon (show 0 ≤ val y + val z by omega)) (by omega) (by omega)
  rw [num_val (by omega)] at hw
  have hxz := product_ok cx cz (by omega) (by omega)
  have hparts := sum_ok (num_canon p0) (num_canon s0) (by omega) (by omega)
  rw [num_val p0, num_val s0, ← Int.mul_add] at hparts
  have hback := Sub_ok (num_canon (show 0 ≤ val x + val y by omega)) cy (by omega) (by omega) (by rw [num_val (by omega)]; omega)
  rw [num_val (by omega), Int.add_sub_cancel, num_of cx] at hback
  have h0 := sum_ok cx canon_nil (by omega) (by decide)
  rw [val_nil, Int.add_zero, num_of cx] at h0
  have hone := product_ok cx (show Canon [1] from ⟨dig_cons.2 ⟨by omega, dig_nil⟩, .inr (by decide)⟩) (by omega) (by decide)
  rw [show val [1] = 1 from rfl, Int.mul_one, num_of cx] at hone
  have hnone := product_ok canon_nil cx (by decide) (by omega)
  rw [val_nil, Int.zero_mul, num_zero] at hnone
  have j1 : Ev (fun k => fluxionlaw01_NatRing.j1 k x y (num (val x + val y)) (num (val x * val y)) (num (val x * (val y + val z))) (num (val x * val z)) (decide (((num (val x * val z)).length : Int) > 200))) true := by
    refine ev_succ ?_
    simp only [fluxionlaw01_NatRing.j1]
    refine ev_else (by rw [decide_eq_true_iff]; omega) (Ev.bind hparts (Ev.bind hback (Ev.bind h0 (Ev.bind hone (Ev.bind hnone (ev_if rfl (ev_if rfl (ev_if rfl (ev_if rfl (ev_if rfl ?_))))))))))
    refine Ev.bind (same_true rfl (show (num (val x * (val y + val z))).length ≤ 1000000 by omega)) (ev_if rfl (Ev.bind (same_true rfl (show x.length ≤ 1000000 by omega)) (ev_if rfl (Ev.bind (same_true rfl (show x.length ≤ 1000000 by omega)) (ev_if rfl (Ev.bind (same_true rfl (show x.length ≤ 1000000 by omega)) (ev_if rfl (ev_if rfl ?_))))))))
    exact ev_val alive_true (ev_some _)
  have j0 : Ev (fun k => fluxionlaw01_NatRing.j0 k x y z (num (val x + val y)) (num (val y + val z)) (num (val x * val y)) (num (val y * val z)) (decide (((num (val y * val z)).length : Int) > 200))) true := by
    refine ev_succ ?_
    simp only [fluxionlaw01_NatRing.j0]
    refine ev_else (by rw [decide_eq_true_iff]; omega) (Ev.bind hl (Ev.bind hR (Ev.bind h1 (Ev.bind ho (Ev.bind hw (Ev.bind hxz (ev_if rfl (ev_if rfl (ev_if rfl (ev_if rfl (ev_if rfl (ev_if rfl ?_))))))))))))
    exact Ev.bind (same_true rfl (show (num (val x + val y + val z)).length ≤ 1000000 by omega)) (ev_if rfl (Ev.bind (same_true rfl (show (num (val x * val y * val z)).length ≤ 1000000 by omega)) (ev_if rfl j1)))
  refine Ev.bind tx (Ev.bind ty (Ev.bind tz (Ev.bind hxy (Ev.bind hyx (Ev.bind hyz (Ev.bind hp (Ev.bind hq (Ev.bind hr (ev_if rfl (ev_if rfl (ev_if rfl (ev_if rfl (ev_if rfl (ev_if rfl ?_))))))))))))))
  refine Ev.bind (same_true rfl (show (num (val x + val y)).length ≤ 1000000 by omega)) (ev_if rfl (Ev.bind (same_true rfl (show (num (val x * val y)).length ≤ 1000000 by omega)) (ev_if rfl ?_)))
  exact ev_else (by show ¬ ((num (val x + val y)).length : Int) > 101; omega) (ev_else (by show ¬ ((num (val y + val z)).length : Int) > 101; omega) (ev_else (by show ¬ ((num (val x * val y)).length : Int) > 200; omega) j0))
end Go.Proofs.Ytceglknbonfdeaa.Pure
