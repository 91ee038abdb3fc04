/- The laws of the greatest common divisor, with no program: it divides both numbers, the quotients have none but 1, and a factor of both goes into it. -/
import Derived.Test.YtceglknbonfdeaaN10
import Derived.Test.YtceglknbonfdeaaN7d
import Derived.Test.YtceglknbonfdeaaDNatCoprime
namespace Go.Proofs.Ytceglknbonfdeaa.Pure
open Go.RowKit Go.Proofs.YtceglknbonfdeaaW.PrintWords Go.Proofs.YtceglknbonfdeaaW.PrintLast Go.Proofs.YtceglknbonfdeaaW.PrintMore PNat
set_option linter.unusedVariables false
theorem gI_nat (a b : Nat) : gI a b = (Nat.gcd a b : Nat) := by unfold gI; rw [Int.toNat_natCast, Int.toNat_natCast]
theorem gI_dvd {a b : Int} (ha : 0 ≤ a) (hb : 0 ≤ b) : a % gI a b = 0 ∧ b % gI a b = 0 := by
  obtain ⟨A, rfl⟩ := Int.eq_ofNat_of_zero_le ha
  obtain ⟨B, rfl⟩ := Int.eq_ofNat_of_zero_le hb
  rw [gI_nat]
  refine ⟨?_, ?_⟩
  · rw [← Int.natCast_emod, Nat.mod_eq_zero_of_dvd (Nat.gcd_dvd_left A B)]; rfl
  · rw [← Int.natCast_emod, Nat.mod_eq_zero_of_dvd (Nat.gcd_dvd_right A B)]; rfl
theorem gI_mul {a b c : Int} (ha : 0 ≤ a) (hb : 0 ≤ b) (hc : 0 ≤ c) : gI (a * c) (b * c) = gI a b * c := by
  obtain ⟨A, rfl⟩ := Int.eq_ofNat_of_zero_le ha
  obtain ⟨B, rfl⟩ := Int.eq_ofNat_of_zero_le hb
  obtain ⟨C, rfl⟩ := Int.eq_ofNat_of_zero_le hc
  rw [← Int.natCast_mul, ← Int.natCast_mul, gI_nat, gI_nat, Nat.gcd_mul_right, Int.natCast_mul]
theorem gI_zero_iff {a b : Int} (ha : 0 ≤ a) (hb : 0 ≤ b) : gI a b = 0 ↔ a = 0 ∧ b = 0 := by
  obtain ⟨A, rfl⟩ := Int.eq_ofNat_of_zero_le ha
  obtain ⟨B, rfl⟩ := Int.eq_ofNat_of_zero_le hb
  rw [gI_nat]
  have := @Nat.gcd_eq_zero_iff A B
  omega
theorem gI_parts {a b : Int} (ha : 0 ≤ a) (hb : 0 ≤ b) (h : 0 < gI a b) : gI (a / gI a b) (b / gI a b) = 1 := by
  obtain ⟨d1, d2⟩ := gI_dvd ha hb
  have e := gI_mul (a := a / gI a b) (b := b / gI a b) (c := gI a b) (Int.ediv_nonneg ha (by omega)) (Int.ediv_nonneg hb (by omega)) (by omega)
  have e1 := Int.mul_ediv_add_emod a (gI a b)
  have e2 := Int.mul_ediv_add_emod b (gI a b)
  rw [d1, Int.add_zero, Int.mul_comm] at e1
  rw [d2, Int.add_zero, Int.mul_comm] at e2
  rw [e1, e2] at e
  generalize gI (a / gI a b) (b / gI a b) = u at *
  generalize gI a b = g at *
  have : (u - 1) * g = 0 := by rw [Int.sub_mul]; omega
  rcases Int.mul_eq_zero.1 this with h1 | h1 <;> omega
theorem gI_bound {a b : Int} (ha : 0 ≤ a) (hb : 0 ≤ b) {n : Nat} (h1 : a < pw n) (h2 : b < pw n) : gI a b < pw n := by
  rcases Int.lt_or_le 0 a with h | h
  · have := gI_le (b := b) h; omega
  · have e : a = 0 := by omega
    rw [e, gI_comm, gI_zero hb]; exact h2
theorem mul_lt_pw' {a b : Int} {m n : Nat} (a0 : 0 ≤ a) (a1 : a < pw m) (b0 : 0 ≤ b) (b1 : b < pw n) : 0 ≤ a * b ∧ a * b < pw (m + n) := by
  refine ⟨Int.mul_nonneg a0 b0, ?_⟩
  rw [pw_add]
  have h1 : a * b ≤ a * pw n := Int.mul_le_mul_of_nonneg_left (by omega) a0
  have h2 : a * pw n < pw m * pw n := Int.mul_lt_mul_of_pos_right a1 (pw_pos n)
  omega
theorem NatCoprime : fluxionlaw01_NatCoprime.Pure := by
  intro l0 l1 l2 _ _ w0 _ _ w1 _ _ w2
  obtain ⟨cx, sx⟩ := tame_ok w0 60
  obtain ⟨cy, sy⟩ := tame_ok w1 60
  obtain ⟨cz, sz⟩ := tame_ok w2 20
  have tx := tame_f l0 60 (by omega)
  have ty := tame_f l1 60 (by omega)
  have tz := tame_f l2 20 (by omega)
  generalize tr (l0.take 60) = x at *
  generalize tr (l1.take 60) = y at *
  generalize tr (l2.take 20) = z at *
  refine ev_out (r := true) ?_
  unfold fluxionlaw01_NatCoprime.f
  have vx := val_nonneg cx.1
  have vy := val_nonneg cy.1
  have vz := val_nonneg cz.1
  have bx := val_512 cx.1 sx
  have by' := val_512 cy.1 sy
  have bz := val_512 cz.1 sz
  have g0 := gI_nonneg (val x) (val y)
  have gb := gI_bound vx vy bx by'
  have lg : (num (gI (val x) (val y))).length ≤ 60 := num_len g0 gb
  have hg := Gcd_ok cx cy (by omega) (by omega)
  have hh := Gcd_ok cy cx (by omega) (by omega)
  rw [gI_comm (val y) (val x)] at hh
  have zx := cx.zero
  have zy := cy.zero
  have gz := gI_zero_iff vx vy
  have e0 : ((((num (gI (val x) (val y))).length : Int) == 0) != ((wrap64 ((x.length : Int) + (y.length : Int))) == 0)) = false := by
    rw [w64a _ _ (by omega)]
    have n1 := num_len_pos g0
    have n2 := cx.len_pos
    have n3 := cy.len_pos
    by_cases h : gI (val x) (val y) = 0
    · obtain ⟨hx, hy⟩ := gz.1 h
      have ex := zx.1 hx
      have ey := zy.1 hy
      rw [h, ex, ey]; rfl
    · have h1 : ((num (gI (val x) (val y))).length : Int) ≠ 0 := by omega
      have h2 : ((x.length + y.length : Nat) : Int) ≠ 0 := by
        intro c
        have c1 : x = [] := List.eq_nil_of_length_eq_zero (by omega)
        have c2 : y = [] := List.eq_nil_of_length_eq_zero (by omega)
        exact h (gz.2 ⟨zx.2 c1, zy.2 c2⟩)
      rw [beq_eq_false_iff_ne.2 h1, beq_eq_false_iff_ne.2 h2]; rfl
  refine Ev.bind tx (Ev.bind ty (Ev.bind tz (Ev.bind hg (Ev.bind hh (ev_if rfl (ev_if rfl (Ev.bind (same_true rfl (show (num (gI (val x) (val y))).length ≤ 1000000 by omega)) (ev_if rfl ?_))))))))
  refine ev_else (by show ¬ ((num (gI (val x) (val y))).length : Int) > 60; omega) ?_
  refine ev_succ ?_
  simp only [fluxionlaw01_NatCoprime.j0]
  refine ev_else (by rw [Bool.not_eq_true]; exact e0) ?_
  by_cases hz : gI (val x) (val y) = 0
  · refine ev_if (by rw [hz]; rfl) ?_
    exact ev_val alive_true (ev_some _)
  · have hp : 0 < gI (val x) (val y) := by omega
    have lp := (num_len_pos g0).2 hp
    obtain ⟨d1, d2⟩ := gI_dvd vx vy
    have one := gI_parts vx vy hp
    have gm := gI_mul vx vy vz
    have a0 : 0 ≤ val x / gI (val x) (val y) := Int.ediv_nonneg vx (by omega)
    have a1 : val x / gI (val x) (val y) ≤ val x := Int.ediv_le_self _ vx
    have b0 : 0 ≤ val y / gI (val x) (val y) := Int.ediv_nonneg vy (by omega)
    have b1 : val y / gI (val x) (val y) ≤ val y := Int.ediv_le_self _ vy
    have hd1 := Div_ok cx (num_canon g0) (by omega) (by omega) lp
    rw [num_val g0, d1, num_zero] at hd1
    have hd2 := Div_ok cy (num_canon g0) (by omega) (by omega) lp
    rw [num_val g0, d2, num_zero] at hd2
    generalize val x / gI (val x) (val y) = a at *
    generalize val y / gI (val x) (val y) = b at *
    have la : (num a).length ≤ 60 := num_len a0 (by omega)
    have lb : (num b).length ≤ 60 := num_len b0 (by omega)
    have ho := Gcd_ok (num_canon a0) (num_canon b0) (by omega) (by omega)
    rw [num_val a0, num_val b0, one, show num 1 = [1] from num_eq (l := [1]) ⟨dig_cons.2 ⟨by omega, dig_nil⟩, .inr (by decide)⟩ rfl] at ho
    obtain ⟨m0, m1⟩ := mul_lt_pw' vx bx vz bz
    obtain ⟨n0, n1⟩ := mul_lt_pw' vy by' vz bz
    obtain ⟨q0, q1⟩ := mul_lt_pw' g0 gb vz bz
    have lm : (num (val x * val z)).length ≤ 80 := num_len m0 m1
    have ln : (num (val y * val z)).length ≤ 80 := num_len n0 n1
    have lq : (num (gI (val x) (val y) * val z)).length ≤ 80 := num_len q0 q1
    have hxz := product_ok cx cz (by omega) (by omega)
    have hyz := product_ok cy cz (by omega) (by omega)
    have hw := product_ok (num_canon g0) cz (by omega) (by omega)
    rw [num_val g0] at hw
    have hd := Gcd_ok (num_canon m0) (num_canon n0) (by omega) (by omega)
    rw [num_val m0, num_val n0, gm] at hd
    refine ev_else (by omega) (Ev.bind hd1 (Ev.bind hd2 (ev_if rfl (ev_if rfl (ev_else (by show ¬ ((([] : List Int).length : Int) > 0); decide) (ev_else (by show ¬ ((([] : List Int).length : Int) > 0); decide) (ev_else (by show ¬ ((num a).length : Int) > 60; omega) ?_)))))))
    refine ev_succ ?_
    simp only [fluxionlaw01_NatCoprime.j1]
    refine ev_else (by rw [decide_eq_true_iff]; show ¬ ((num b).length : Int) > 60; omega) (Ev.bind ho (Ev.bind hxz (Ev.bind hyz (ev_if rfl (Ev.bind (same_true rfl (show ([1] : List Int).length ≤ 1000000 by decide)) (ev_if rfl (ev_if rfl (ev_if rfl (ev_else (by show ¬ ((num (val x * val z)).length : Int) > 80; omega) ?_)))))))))
    refine ev_succ ?_
    simp only [fluxionlaw01_NatCoprime.j2]
    refine ev_else (by rw [decide_eq_true_iff]; show ¬ ((num (val y * val z)).length : Int) > 80; omega) (Ev.bind hd (Ev.bind hw (ev_if rfl (ev_if rfl (Ev.bind (same_true rfl (show (num (gI (val x) (val y) * val z)).length ≤ 1000000 by omega)) (ev_if rfl ?_))))))
    exact ev_val alive_true (ev_some _)
end Go.Proofs.Ytceglknbonfdeaa.Pure
