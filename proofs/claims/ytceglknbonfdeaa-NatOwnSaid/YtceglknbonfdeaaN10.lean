/- Greatest common divisors: by Euclid's steps and, in the reference, by halves. No program. -/
import Derived.Test.YtceglknbonfdeaaN9
namespace Go.Proofs.Ytceglknbonfdeaa.PNat
open Go.RowKit Go.Proofs.YtceglknbonfdeaaW.PrintWords Go.Proofs.YtceglknbonfdeaaW.PrintLast Go.Proofs.YtceglknbonfdeaaW.PrintMore
set_option linter.unusedVariables false

/-- The greatest common divisor of two numbers. -/
def gI (a b : Int) : Int := ((Nat.gcd a.toNat b.toNat : Nat) : Int)
theorem gI_zero {a : Int} (h : 0 ≤ a) : gI a 0 = a := by
  unfold gI
  rw [show (0 : Int).toNat = 0 from rfl, Nat.gcd_zero_right]
  omega
theorem gI_mod {a b : Int} (ha : 0 ≤ a) (hb : 0 < b) : gI b (a % b) = gI a b := by
  obtain ⟨m, rfl⟩ := Int.eq_ofNat_of_zero_le ha
  obtain ⟨n, rfl⟩ := Int.eq_ofNat_of_zero_le (show 0 ≤ b by omega)
  have e : ((m : Int) % (n : Int)).toNat = m % n := by
    rw [show (m : Int) % (n : Int) = ((m % n : Nat) : Int) from rfl, Int.toNat_natCast]
  unfold gI
  rw [e, Int.toNat_natCast, Int.toNat_natCast, Nat.gcd_comm, ← Nat.gcd_rec, Nat.gcd_comm]
/-! ### Euclid -/
theorem gcd_loop (n : Nat) : ∀ x y : List Int, Canon x → Canon y → x.length ≤ 100000 → y.length ≤ 100000 → val y < n → Ev (fun k => nat_gcd.l0 k x y) (num (gI (val x) (val y))) := by
  induction n with
  | zero => intro x y cx cy _ _ h; have := val_nonneg cy.1; omega
  | succ n ih =>
    intro x y cx cy sx sy h
    have vx := val_nonneg cx.1
    refine ev_succ ?_
    simp only [nat_gcd.l0]
    rcases Nat.eq_zero_or_pos y.length with h0 | h0
    · obtain rfl := List.eq_nil_of_length_eq_zero h0
      rw [val_nil, gI_zero vx, num_of cx]
      exact ev_else (by decide) (ev_val (clone_eq _ (by omega)) (ev_some _))
    · have hv := cy.pos h0
      have r0 : 0 ≤ val x % val y := Int.emod_nonneg _ (by omega)
      have r1 : val x % val y < val y := Int.emod_lt_of_pos _ hv
      have rl : (num (val x % val y)).length ≤ y.length := num_len r0 (by have := val_lt cy.1; omega)
      have hn := ih y (num (val x % val y)) cy (num_canon r0) sy (by omega) (by rw [num_val r0]; omega)
      rw [num_val r0, gI_mod vx hv] at hn
      exact ev_if (by omega) (Ev.bind (div_f cx cy h0 sx sy) hn)
theorem Gcd_ok {x y : List Int} (cx : Canon x) (cy : Canon y) (sx : x.length ≤ 512) (sy : y.length ≤ 512) : Ev (fun k => nat_Gcd.f k x y) (num (gI (val x) (val y)), 0) := by
  have h := gcd_loop ((val y).toNat + 1) x y cx cy (by omega) (by omega) (by have := val_nonneg cy.1; omega)
  unfold nat_Gcd.f
  exact Ev.bind (form2 x y (by omega) (by omega)) (ev_if (fE2_ok sx cx sy cy) (Ev.bind h (ev_some _)))

end Go.Proofs.Ytceglknbonfdeaa.PNat
