/- The law of forms, with no program: which lists are numbers, the digits of a number, the numbers of two digits, and the bits are those of the specification. -/
import Derived.Test.YtceglknbonfdeaaN9
import Derived.Test.YtceglknbonfdeaaN15
import Derived.Test.YtceglknbonfdeaaDNatForms
namespace Go.Proofs.Ytceglknbonfdeaa.Pure
open Go.RowKit Go.Proofs.YtceglknbonfdeaaW.PrintWords Go.Proofs.YtceglknbonfdeaaW.PrintLast Go.Proofs.YtceglknbonfdeaaW.PrintMore PNat
set_option linter.unusedVariables false
theorem rsmall_loop (x : List Int) (hs : x.length ≤ 1000) (d : Nat) : ∀ j : Nat, x.length = j + d → Ev (fun k => fluxionref01_Small.l0 k x (sm (bws x j)) ((x.length : Int) - 1 - (j : Int))) (sm (bws x x.length), true) := by
  induction d with
  | zero =>
    intro j hj
    obtain rfl : j = x.length := by omega
    refine ev_now fun k => ?_
    simp only [fluxionref01_Small.l0]
    rw [if_neg (by omega)]
  | succ d ih =>
    intro j hj
    have h := ih (j + 1) (by omega)
    rw [bws_succ, sm_snoc] at h
    refine ev_succ ?_
    simp only [fluxionref01_Small.l0]
    refine ev_if (by omega) (ev_if (by omega) (ev_if (by omega) ?_))
    rw [w64 (by omega) (by omega), show (x.length : Int) - 1 - (j : Int) - 1 = (x.length : Int) - 1 - ((j + 1 : Nat) : Int) by omega]
    exact h
theorem rsmall_f {x : List Int} (h : x.length ≤ 2) : Ev (fun k => fluxionref01_Small.f k x) (sm (bws x x.length), true) := by
  refine ev_eq (f := fun k => fluxionref01_Small.l0 k x 0 (wrap64 ((x.length : Int) - 1))) (fun k => ?_) ?_
  · unfold fluxionref01_Small.f; rw [if_neg (by omega)]
  · have := rsmall_loop x (by omega) x.length 0 (by omega)
    rw [show (x.length : Int) - 1 - ((0 : Nat) : Int) = (x.length : Int) - 1 by omega] at this
    rw [w64 (by omega) (by omega)]
    exact this
theorem NatForms : fluxionlaw01_NatForms.Pure := by
  intro l0 a1 _ _ w0 wa
  have hd : Dig (l0.take 516) := dig_take (dig_wf w0) 516
  have hl := take_le l0 516
  have hc := cut_eq l0 516 (by omega)
  generalize l0.take 516 = x at *
  refine ev_out (r := true) ?_
  unfold fluxionlaw01_NatForms.f
  have hv := valid_eq x (by omega)
  have hi := IsNat_f (x := x) (by omega)
  have hf := form1 x (by omega)
  refine ev_val hc (ev_val hv (Ev.bind hi (ev_else (by cases (fE x == 0) <;> decide) ?_)))
  have ho1 : Ev (fun k => nat_Of.f k a1) (tr [a1 % 4294967296, a1 / 4294967296 % 4294967296]) := Ev.bind (trim_f _ (by show 2 ≤ 1000000; omega)) (ev_some _)
  have ho2 : Ev (fun k => fluxionref01_Of.f k a1) (tr [a1 % 4294967296, a1 / 4294967296 % 4294967296]) := Ev.bind (rshort_f _ (by show 2 ≤ 1000000; omega)) (ev_some _)
  have hlt : (tr [a1 % 4294967296, a1 / 4294967296 % 4294967296]).length ≤ 1000000 := by
    have := tr_length [a1 % 4294967296, a1 / 4294967296 % 4294967296]
    have e : [a1 % 4294967296, a1 / 4294967296 % 4294967296].length = 2 := rfl
    omega
  refine Ev.bind ho1 (Ev.bind ho2 (Ev.bind (same_true rfl hlt) ?_))
  refine ev_succ ?_
  simp only [fluxionlaw01_NatForms.j0]
  refine ev_else (by decide) ?_
  by_cases h0 : fE x = 0
  · obtain ⟨sx, cx⟩ := (fE_zero hd).1 h0
    rw [h0] at hf
    obtain ⟨b, hb, b1, b2, b3, b4⟩ := size_f cx (by omega)
    obtain ⟨c, hc', c1, c2, c3, c4⟩ := rbits_f cx (by omega)
    obtain rfl : b = c := bits_unique (val_nonneg cx.1) b1 b2 b3 c1 c2 c3
    have hB : Ev (fun k => nat_Bits.f k x) ((b : Int), 0) := Ev.bind hf (ev_if rfl (ev_val hb (ev_some _)))
    by_cases h2 : x.length ≤ 2
    · have hS : Ev (fun k => nat_Small2.f k x) (sm (bws x x.length), 0) := Ev.bind hf (ev_if rfl (ev_else (by omega) (ev_some _)))
      refine Ev.bind hS (Ev.bind hB (ev_if h0 (Ev.bind (rsmall_f h2) (ev_if rfl (ev_if rfl ?_)))))
      refine ev_succ ?_
      simp only [fluxionlaw01_NatForms.j1]
      exact ev_else (by decide) (Ev.bind hc' (ev_if rfl (ev_if trivial (ev_val alive_true (ev_some _)))))
    · have hS : Ev (fun k => nat_Small2.f k x) (0, 4) := Ev.bind hf (ev_if rfl (ev_if (by omega) (ev_some _)))
      have hR : Ev (fun k => fluxionref01_Small.f k x) (0, false) := ev_of_eq fun k => by unfold fluxionref01_Small.f; rw [if_pos (by omega)]
      refine Ev.bind hS (Ev.bind hB (ev_if h0 (Ev.bind hR (ev_else (by decide) (ev_if rfl ?_)))))
      refine ev_succ ?_
      simp only [fluxionlaw01_NatForms.j2]
      exact ev_else (by decide) (Ev.bind hc' (ev_if rfl (ev_if trivial (ev_val alive_true (ev_some _)))))
  · have hB : Ev (fun k => nat_Bits.f k x) (0, fE x) := Ev.bind hf (ev_else h0 (ev_some _))
    have hS : Ev (fun k => nat_Small2.f k x) (0, fE x) := Ev.bind hf (ev_else h0 (ev_some _))
    exact Ev.bind hS (Ev.bind hB (ev_else h0 (ev_if rfl (ev_if rfl (ev_if rfl (ev_if rfl (ev_val alive_true (ev_some _))))))))
end Go.Proofs.Ytceglknbonfdeaa.Pure
