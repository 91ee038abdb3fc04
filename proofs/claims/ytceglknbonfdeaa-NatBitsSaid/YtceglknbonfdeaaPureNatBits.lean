/- The laws of Bits, with no program: the bits of a product are the sum of both or one less, and a number lies between the two powers that its bits name. -/
import Derived.Test.YtceglknbonfdeaaN11
import Derived.Test.YtceglknbonfdeaaN15
import Derived.Test.YtceglknbonfdeaaDNatBits
namespace Go.Proofs.Ytceglknbonfdeaa.Pure
open Go.RowKit Go.Proofs.YtceglknbonfdeaaW.PrintWords Go.Proofs.YtceglknbonfdeaaW.PrintLast Go.Proofs.YtceglknbonfdeaaW.PrintMore PNat
set_option linter.unusedVariables false
theorem Bits_ok {x : List Int} (cx : Canon x) (sx : x.length ≤ 512) : ∃ b : Nat, Ev (fun k => nat_Bits.f k x) ((b : Int), 0) ∧ val x < 2 ^ b ∧ (0 < val x → 1 ≤ b ∧ 2 ^ (b - 1) ≤ val x) ∧ (val x = 0 → b = 0) ∧ b ≤ 32 * x.length := by
  obtain ⟨b, h, h1⟩ := size_f cx (by omega)
  refine ⟨b, ?_, h1⟩
  have hf := form1 x (by omega)
  rw [fE_ok sx cx] at hf
  exact Ev.bind hf (ev_if rfl (ev_val h (ev_some _)))
theorem set_last (n : Nat) (v : Int) : (List.replicate (n + 1) (0 : Int)).set n v = List.replicate n 0 ++ [v] := by
  induction n with
  | zero => rfl
  | succ n ih => rw [List.replicate_succ, List.set_cons_succ, ih]; rfl
theorem two_pow_mul (a b : Nat) : (2 : Int) ^ (a + b) = 2 ^ a * 2 ^ b := Int.pow_add _ _ _
theorem NatBits : fluxionlaw01_NatBits.Pure := by
  intro l0 l1 _ _ w0 _ _ w1
  obtain ⟨cx, sx⟩ := tame_ok w0 100
  obtain ⟨cy, sy⟩ := tame_ok w1 100
  have tx := tame_f l0 100 (by omega)
  have ty := tame_f l1 100 (by omega)
  generalize tr (l0.take 100) = x at *
  generalize tr (l1.take 100) = y at *
  refine ev_out (r := true) ?_
  unfold fluxionlaw01_NatBits.f
  have vx := val_nonneg cx.1
  have vy := val_nonneg cy.1
  have p0 : 0 ≤ val x * val y := Int.mul_nonneg vx vy
  have lp : (num (val x * val y)).length ≤ 200 := by
    have := val_mul_lt cx.1 cy.1
    have := pw_mono (show x.length + y.length ≤ 200 by omega)
    exact num_len p0 (by omega)
  obtain ⟨a, ha, a1, a2, a3, a4⟩ := Bits_ok cx (by omega)
  obtain ⟨b, hb, b1, b2, b3, b4⟩ := Bits_ok cy (by omega)
  obtain ⟨c, hc, c1, c2, c3, c4⟩ := Bits_ok (num_canon p0) (by omega)
  rw [num_val p0] at c1 c2 c3
  have hp := product_ok cx cy (by omega) (by omega)
  refine Ev.bind tx (Ev.bind ty (Ev.bind ha (Ev.bind hb (Ev.bind hp (ev_if rfl (ev_if rfl (ev_if rfl ?_)))))))
  refine ev_else (by show ¬ ((num (val x * val y)).length : Int) > 200; omega) (ev_else (by show ¬ ((a : Int) < 0); omega) (ev_else (by show ¬ ((a : Int) > 3200); omega) (ev_else (by show ¬ ((b : Int) < 0); omega) ?_)))
  refine ev_succ ?_
  simp only [fluxionlaw01_NatBits.j0]
  refine ev_else (by rw [decide_eq_true_iff]; show ¬ ((b : Int) > 3200); omega) (Ev.bind hc ?_)
  have zx := cx.zero
  have zy := cy.zero
  have nil0 : ∀ l : List Int, (l.length : Int) = 0 ↔ l = [] := fun l => ⟨fun h => List.eq_nil_of_length_eq_zero (by omega), fun h => by rw [h]; rfl⟩
  have one0 : ∀ (l : List Int) (d : Nat), Canon l → val l < 2 ^ d → (0 < val l → 1 ≤ d ∧ 2 ^ (d - 1) ≤ val l) → (val l = 0 → d = 0) → (((d : Int) == 0) == ((l.length : Int) == 0)) = true := by
    intro l d cl h1 h2 h3
    by_cases h : l = []
    · have : d = 0 := h3 (cl.zero.2 h)
      rw [this, h]; rfl
    · have hl : (l.length : Int) ≠ 0 := fun e => h ((nil0 l).1 e)
      have hv : 0 < val l := cl.pos (by omega)
      have hd : (d : Int) ≠ 0 := by have := (h2 hv).1; omega
      rw [beq_eq_false_iff_ne.2 hl, beq_eq_false_iff_ne.2 hd]; rfl
  have way1 : val x * val y = 0 → Ev (fun k => fluxionlaw01_NatBits.j1 k x y (a : Int) (b : Int) (c : Int) 0 true) true := by
    intro h
    refine ev_succ ?_
    simp only [fluxionlaw01_NatBits.j1]
    refine ev_if trivial (ev_if trivial (ev_if (by rw [c3 h]; rfl) (ev_if (one0 x a cx a1 a2 a3) (ev_if (one0 y b cy b1 b2 b3) ?_))))
    exact ev_val alive_true (ev_some _)
  by_cases hx : x = []
  · refine ev_if ((nil0 x).2 hx) (way1 ?_)
    rw [zx.2 hx, Int.zero_mul]
  refine ev_else (fun e => hx ((nil0 x).1 e)) ?_
  by_cases hy : y = []
  · rw [show ((y.length : Int) == 0) = true by rw [hy]; rfl]
    refine way1 ?_
    rw [zy.2 hy, Int.mul_zero]
  have hy1 : ((y.length : Int) == 0) = false := beq_eq_false_iff_ne.2 fun e => hy ((nil0 y).1 e)
  rw [hy1]
  have px : 0 < val x := by
    rcases Int.lt_or_le 0 (val x) with h | h
    · exact h
    · exact absurd (zx.1 (by omega)) hx
  have py : 0 < val y := by
    rcases Int.lt_or_le 0 (val y) with h | h
    · exact h
    · exact absurd (zy.1 (by omega)) hy
  obtain ⟨a5, a6⟩ := a2 px
  obtain ⟨b5, b6⟩ := b2 py
  have pp : 0 < val x * val y := Int.mul_pos px py
  obtain ⟨c5, c6⟩ := c2 pp
  have up : val x * val y < 2 ^ (a + b) := by
    rw [two_pow_mul]
    have h1 : val x * val y < val x * 2 ^ b := Int.mul_lt_mul_of_pos_left b1 px
    have h2 : val x * 2 ^ b ≤ 2 ^ a * 2 ^ b := Int.mul_le_mul_of_nonneg_right (by omega) (by have := two_pos b; omega)
    omega
  have low : (2 : Int) ^ (a - 1 + (b - 1)) ≤ val x * val y := by
    rw [two_pow_mul]
    exact Int.mul_le_mul a6 b6 (by have := two_pos (b - 1); omega) (by omega)
  have k1 : c - 1 < a + b := pow_lt_iff (by omega)
  have k2 : a - 1 + (b - 1) < c := pow_lt_iff (by omega)
  have j2 : Ev (fun k => fluxionlaw01_NatBits.j2 k x (a : Int) (decide ((a : Int) < 1))) true := by
    refine ev_succ ?_
    simp only [fluxionlaw01_NatBits.j2]
    refine ev_else (by rw [decide_eq_true_iff]; omega) ?_
    have q1 : wrap64 ((wrap64 (Int.tdiv (a : Int) 32)) + 1) = ((a / 32 + 1 : Nat) : Int) := by rw [td32 (by omega), w64s _ (by omega)]
    have q2 : wrap64 ((a : Int) - 1) = ((a - 1 : Nat) : Int) := w64l (by omega) (by omega)
    have q3 : wrap64 ((wrap64 (Int.tdiv ((a - 1 : Nat) : Int) 32)) + 1) = (((a - 1) / 32 + 1 : Nat) : Int) := by rw [td32 (by omega), w64s _ (by omega)]
    rw [q2, q1, q3, td32 (show a ≤ 2000000 by omega), td32 (show a - 1 ≤ 2000000 by omega), tm32 a, tm32 (a - 1)]
    clear q1 q2 q3
    rw [Int.toNat_natCast, Int.toNat_natCast, Int.toNat_natCast, Int.toNat_natCast, shl32_one (Nat.mod_lt _ (by decide)), shl32_one (Nat.mod_lt _ (by decide))]
    obtain ⟨h1, h2⟩ := pow_list a
    obtain ⟨h3, h4⟩ := pow_list (a - 1)
    rw [← set_last] at h1 h2 h3 h4
    have l1 : ((List.replicate (a / 32 + 1) (0 : Int)).set (a / 32) (2 ^ (a % 32))).length ≤ 512 := by rw [List.length_set, List.length_replicate]; omega
    have l2 : ((List.replicate ((a - 1) / 32 + 1) (0 : Int)).set ((a - 1) / 32) (2 ^ ((a - 1) % 32))).length ≤ 512 := by rw [List.length_set, List.length_replicate]; omega
    have m1 := Compare_ok cx h1 (by omega) l1
    have m2 := Compare_ok h3 cx l2 (by omega)
    rw [h2, cmpI_lt a1] at m1
    rw [h4] at m2
    refine ev_if (by omega) (ev_if (by omega) (ev_val rfl ?_))
    refine ev_if (by omega) (ev_if (by omega) (ev_val rfl ?_))
    refine ev_if (by omega) (ev_if (by omega) (ev_if (by rw [List.length_replicate]; omega) (ev_if (by omega) (ev_if (by omega) (ev_if (by rw [List.length_replicate]; omega) ?_)))))
    refine Ev.bind m1 (Ev.bind m2 (ev_if rfl (ev_if rfl (ev_if rfl (ev_if ?_ (ev_val alive_true (ev_some _)))))))
    show cmpI _ _ ≤ 0
    rcases Int.lt_or_le 0 (cmpI (2 ^ (a - 1)) (val x)) with h | h
    · have := cmpI_pos.1 h; omega
    · exact h
  refine ev_succ ?_
  simp only [fluxionlaw01_NatBits.j1]
  refine ev_else (by decide) (ev_if trivial ?_)
  rw [w64a _ _ (by omega), w64l (show 0 < a + b by omega) (by omega)]
  by_cases hc : c = a + b
  · exact ev_if (by rw [hc]) j2
  · exact ev_else (by omega) (ev_if (by omega) j2)
end Go.Proofs.Ytceglknbonfdeaa.Pure
