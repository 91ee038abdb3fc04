/- The law of exponents, with no program: the powers' product is the power of the sum. -/
import Derived.Test.YtceglknbonfdeaaN15
import Derived.Test.YtceglknbonfdeaaDNatExponents
namespace Go.Proofs.Ytceglknbonfdeaa.Pure
open Go.RowKit Go.Proofs.YtceglknbonfdeaaW.PrintWords Go.Proofs.YtceglknbonfdeaaW.PrintLast Go.Proofs.YtceglknbonfdeaaW.PrintMore PNat
set_option linter.unusedVariables false
theorem byte_wf {a : Int} (h : (Lit.int .u8 a).wf = true) : 0 ≤ a ∧ a ≤ 255 := by
  simp [Lit.wf, IntKind.min, IntKind.max, IntKind.bits, IntKind.signed] at h
  omega
theorem mod31 {a : Int} (h : 0 ≤ a ∧ a ≤ 255) : ∃ e : Nat, e ≤ 30 ∧ wrap64 (Int.tmod a 31) = (e : Int) := by
  obtain ⟨n, rfl⟩ := Int.eq_ofNat_of_zero_le h.1
  refine ⟨n % 31, by omega, ?_⟩
  rw [show (31 : Int) = ((31 : Nat) : Int) from rfl, tmod_nat, w64n (by omega)]
theorem NatExponents : fluxionlaw01_NatExponents.Pure := by
  intro l0 a1 a2 _ _ w0 w1 w2
  obtain ⟨cx, sx⟩ := tame_ok w0 4
  have tx := tame_f l0 4 (by omega)
  generalize tr (l0.take 4) = x at *
  refine ev_out (r := true) ?_
  unfold fluxionlaw01_NatExponents.f
  obtain ⟨e1, h1, k1⟩ := mod31 (byte_wf w1)
  obtain ⟨e2, h2, k2⟩ := mod31 (byte_wf w2)
  have k3 : wrap64 ((e1 : Int) + (e2 : Int)) = ((e1 + e2 : Nat) : Int) := w64a e1 e2 (by omega)
  rw [k1, k2, k3]
  clear k1 k2 k3
  have vx := val_nonneg cx.1
  obtain ⟨b, hB, b1, b2, b3, b4⟩ := rbits_f cx (by omega)
  have hp : ∀ e : Nat, e ≤ 60 → Ev (fun k => nat_Power.f k x (e : Int)) (num (val x ^ e), 0) := fun e he => by
    have h := ((Power_ok cx (by omega) (e : Int) b b1 b2 b3).2 (by omega) (by omega)).2 (by
      have h3 : b * e ≤ 128 * 60 := Nat.mul_le_mul (by omega) he
      have h4 : ((b * e : Nat) : Int) ≤ ((16384 : Nat) : Int) := Int.ofNat_le.2 (Nat.le_trans h3 (by decide))
      rw [Int.natCast_mul] at h4
      exact h4)
    rwa [Int.toNat_natCast] at h
  have hl : ∀ e : Nat, e ≤ 30 → 0 ≤ val x ^ e ∧ (num (val x ^ e)).length ≤ 121 := fun e he => by
    obtain ⟨p0, p1⟩ := pow_bound (e := e) vx b1
    refine ⟨p0, num_len p0 ?_⟩
    have h3 : (2 : Int) ^ (b * e) ≤ 2 ^ (32 * 120) := two_mono (Nat.le_trans (Nat.mul_le_mul (show b ≤ 128 by omega) he) (by decide))
    rw [← pw_two] at h3
    have h4 : pw 121 = 4294967296 * pw 120 := pw_succ 120
    have h5 := pw_pos 120
    omega
  obtain ⟨v1, l1⟩ := hl e1 h1
  obtain ⟨v2, l2⟩ := hl e2 h2
  have hm := product_ok (num_canon v1) (num_canon v2) (by omega) (by omega)
  rw [num_val v1, num_val v2, ← Int.pow_add] at hm
  have hml : (num (val x ^ (e1 + e2))).length ≤ 1000000 := by
    have h3 := val_mul_lt (num_canon v1).1 (num_canon v2).1
    rw [num_val v1, num_val v2, ← Int.pow_add] at h3
    have h4 := num_len (pow_bound (e := e1 + e2) vx b1).1 h3
    omega
  have j0 : Ev (fun k => fluxionlaw01_NatExponents.j0 k (num (val x ^ e1)) (num (val x ^ e2)) (num (val x ^ (e1 + e2))) (decide (((num (val x ^ e2)).length : Int) > 124))) true := by
    refine ev_succ ?_
    simp only [fluxionlaw01_NatExponents.j0]
    exact ev_else (by rw [decide_eq_true_iff]; omega) (Ev.bind hm (ev_if rfl (Ev.bind (same_true rfl hml) (ev_if rfl (ev_val alive_true (ev_some _))))))
  exact Ev.bind tx (Ev.bind (hp e1 (by omega)) (Ev.bind (hp e2 (by omega)) (Ev.bind (hp (e1 + e2) (by omega)) (ev_if rfl (ev_if rfl (ev_if rfl (ev_else (show ¬ ((num (val x ^ e1)).length : Int) > 124 by omega) j0)))))))
end Go.Proofs.Ytceglknbonfdeaa.Pure
