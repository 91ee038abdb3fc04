/- The law of powers, with no program: a power, or the reason why there is none, is the reference's. -/
import Derived.Test.YtceglknbonfdeaaN15
import Derived.Test.YtceglknbonfdeaaDNatPowers
namespace Go.Proofs.Ytceglknbonfdeaa.Pure
open Go.RowKit Go.Proofs.YtceglknbonfdeaaW.PrintWords Go.Proofs.YtceglknbonfdeaaW.PrintLast Go.Proofs.YtceglknbonfdeaaW.PrintMore PNat
set_option linter.unusedVariables false
theorem NatPowers : fluxionlaw01_NatPowers.Pure := by
  intro l0 a1 _ _ w0 _
  have dx := dig_take (dig_wf w0) 516
  have sx := take_le l0 516
  have tx := cut_eq l0 516 (by omega)
  generalize l0.take 516 = x at *
  refine ev_out (r := true) ?_
  unfold fluxionlaw01_NatPowers.f
  refine ev_val tx ?_
  have hb := valid_eq x (by omega)
  by_cases h : fE x = 0
  · obtain ⟨sx', cx⟩ := (fE_zero dx).1 h
    obtain ⟨b, hB, b1, b2, b3, b4⟩ := rbits_f cx (by omega)
    obtain ⟨p1, p2⟩ := Power_ok cx sx' a1 b b1 b2 b3
    by_cases ho : a1 < 0 ∨ 1000 < a1
    · have stop : Ev (fun k => fluxionlaw01_NatPowers.j0 k a1 x [] 2 true) true := by
        refine ev_succ ?_
        simp only [fluxionlaw01_NatPowers.j0]
        exact ev_if (by decide) (Ev.bind (is_bad (by decide) _) (ev_if rfl (ev_val alive_true (ev_some _))))
      refine Ev.bind (p1 ho) (ev_val hb (ev_if h ?_))
      by_cases h0 : a1 < 0
      · exact ev_if h0 stop
      · refine ev_else h0 ?_
        rw [decide_eq_true (show a1 > 1000 by omega)]
        exact stop
    · obtain ⟨q1, q2⟩ := p2 (by omega) (by omega)
      have hw : wrap64 ((b : Int) * a1) = (b : Int) * a1 := by
        obtain ⟨m0, m1⟩ := mul_bound (a := (b : Int)) (b := a1) (A := 16384) (C := 1000) (by omega) (by omega) (by omega) (by omega)
        exact w64 (by omega) (by omega)
      have hd : decide (a1 > 1000) = false := decide_eq_false (by omega)
      by_cases hl : 16384 < (b : Int) * a1
      · have go : Ev (fun k => fluxionlaw01_NatPowers.j0 k a1 x [] 8 false) true := by
          refine ev_succ ?_
          simp only [fluxionlaw01_NatPowers.j0]
          exact ev_else (by decide) (Ev.bind hB (ev_if (by rw [hw]; exact hl) (Ev.bind (is_bad (by decide) _) (ev_if rfl (ev_val alive_true (ev_some _))))))
        refine Ev.bind (q1 hl) (ev_val hb (ev_if h (ev_else (fun c => ho (.inl c)) ?_)))
        rw [hd]
        exact go
      · have hl2 : (b : Int) * a1 ≤ 16384 := Int.not_lt.1 hl
        have hw2 : ¬ wrap64 ((b : Int) * a1) > 16384 := by rw [hw]; exact hl
        clear hw
        obtain ⟨m, rfl⟩ := Int.eq_ofNat_of_zero_le (show 0 ≤ a1 by omega)
        have hba : b * m ≤ 16384 := Int.ofNat_le.1 (show ((b * m : Nat) : Int) ≤ ((16384 : Nat) : Int) by rw [Int.natCast_mul]; exact hl2)
        have hr := rpower_loop cx sx' b1 hba (by omega) m 0 (by omega)
        rw [Int.pow_zero, num_one] at hr
        have hr2 : Ev (fun k => fluxionref01_Power.f k x (m : Int)) (num (val x ^ m)) := hr
        have hlen := pow_len (e := m) (val_nonneg cx.1) b1 hba
        have go : Ev (fun k => fluxionlaw01_NatPowers.j0 k (m : Int) x (num (val x ^ m)) 0 false) true := by
          refine ev_succ ?_
          simp only [fluxionlaw01_NatPowers.j0]
          exact ev_else (by decide) (Ev.bind hB (ev_else hw2 (Ev.bind hr2 (Ev.bind (is_ok rfl (by omega)) (ev_if rfl (ev_val alive_true (ev_some _)))))))
        have q3 := q2 hl2
        rw [Int.toNat_natCast] at q3
        refine Ev.bind q3 (ev_val hb (ev_if h (ev_else (fun c => ho (.inl c)) ?_)))
        rw [hd]
        exact go
  · refine Ev.bind (Power_bad (by omega) a1 h) (ev_val hb (ev_else h ?_))
    exact Ev.bind (is_bad h _) (ev_if rfl (ev_val alive_true (ev_some _)))
end Go.Proofs.Ytceglknbonfdeaa.Pure
