/- The law of reading, with no program: what is written is read again, ten times a number has one nought more, and a text that is read is written again. -/
import Derived.Test.YtceglknbonfdeaaN16
import Derived.Test.YtceglknbonfdeaaDNatReads
namespace Go.Proofs.Ytceglknbonfdeaa.Pure
open Go.RowKit Go.Proofs.YtceglknbonfdeaaW.PrintWords Go.Proofs.YtceglknbonfdeaaW.PrintLast Go.Proofs.YtceglknbonfdeaaW.PrintMore PNat
set_option linter.unusedVariables false
theorem reads_j4 (a1 : ByteArray) : Ev (fun k => fluxionlaw01_NatReads.j4 k a1) true := by
  have m0 : 0 ≤ mn (a1.size : Int) 1000 := by unfold mn; split <;> omega
  have m1 : mn (a1.size : Int) 1000 ≤ (a1.size : Int) := by unfold mn; split <;> omega
  have m2 : mn (a1.size : Int) 1000 ≤ 1000 := by unfold mn; split <;> omega
  have hs : (a1.extract 0 (mn (a1.size : Int) 1000).toNat).size ≤ 1000 := by
    rw [ByteArray.size_extract]
    omega
  refine ev_succ ?_
  simp only [fluxionlaw01_NatReads.j4]
  refine ev_if m0 (ev_if m1 ?_)
  generalize a1.extract 0 (mn (a1.size : Int) 1000).toNat = b at *
  have bad : Ev (fun k => nat_Parse.f k b) ([], 5) → Ev (fun n => (nat_Parse.f n b).bind fun bt706 => (if bt706.2 = 0 then ((nat_Text.f n bt706.1).bind fun bt710 => (if bt710.2 = 0 then (if bt710.1.toList = b.toList then ((fluxionlaw01_alive.f).bind fun t712 => (some t712)) else (some false)) else (some false))) else (if (bt706.1.length : Int) = 0 then ((fluxionlaw01_alive.f).bind fun t713 => (some t713)) else (some false)))) true := fun h =>
    Ev.bind h (ev_else (by decide) (ev_if rfl (ev_val alive_true (ev_some _))))
  rcases Nat.eq_zero_or_pos b.size with h0 | h0
  · exact bad (Parse_empty b h0)
  · by_cases hn : bt b 0 = 48 ∧ 1 < b.size
    · exact bad (Parse_nought b (by omega) hn.2 hn.1)
    · have h1 : bt b 0 = 48 → b.size = 1 := fun e => by
        rcases Nat.lt_or_ge 1 b.size with h | h
        · exact absurd ⟨e, h⟩ hn
        · omega
      by_cases hD : ∀ t, t < b.size → IsD b t
      · obtain ⟨v0, v1⟩ := tv_range b.size hD
        have vs := short_value hD b.size (Nat.le_refl _)
        have hl : (num (tv b b.size)).length ≤ 512 := by
          refine num_len v0 ?_
          have e1 : (10 : Int) ^ b.size ≤ 16 ^ b.size := (pow_base (by decide) (by decide) _).2
          have e2 : (16 : Int) ^ b.size ≤ 2 ^ (32 * 512) := by
            rw [show (16 : Int) = 2 ^ 4 by decide, ← Int.pow_mul]
            exact pow_two_mono (by omega)
          rw [pw_is]
          omega
        have hT := Text_ok (num_canon v0) hl
        rw [num_val v0] at hT
        have hb : (if (num (tv b b.size)).length = 0 then (⟨#[48]⟩ : ByteArray) else strOfNums (dec (tv b b.size)).reverse) = b := by
          by_cases hf : bt b 0 = 48
          · have hsz := h1 hf
            have hz : tv b b.size = 0 := by
              rw [hsz]
              show 10 * 0 + (bt b 0 - 48) = 0
              omega
            rw [hz, if_pos (show (num 0).length = 0 from rfl)]
            have := str_bytes (M := [48]) (b := b) (by rw [hsz]; rfl) (fun i hi => by
              obtain rfl : i = 0 := by omega
              rw [dg_cons_zero]
              exact hf.symm)
            rw [← this]
            rfl
          · have hp := (dec_tv hD hf b.size (Nat.le_refl _)).1 h0
            rw [if_neg (by have := (num_len_pos v0).2 hp; omega)]
            exact text_tv hD hf h0
        rw [hb] at hT
        exact Ev.bind (Parse_good b (by omega) h0 h1 hD) (ev_if rfl (Ev.bind hT (ev_if rfl (ev_if rfl (ev_val alive_true (ev_some _))))))
      · have hW : ∃ t, t < b.size ∧ ¬ IsD b t := by
          false_or_by_contra
          rename_i hc
          exact hD fun t ht => by
            false_or_by_contra
            rename_i hc2
            exact hc ⟨t, ht, hc2⟩
        exact bad (Parse_wrong b (by omega) h0 h1 hW)
theorem nought_more (M : List Int) : (strOfNums (M ++ [48])).toList = (strOfNums M ++ (⟨#[48]⟩ : ByteArray)).toList := by
  rw [ByteArray.toList_eq, ByteArray.toList_eq]
  simp [strOfNums]
theorem NatReads : fluxionlaw01_NatReads.Pure := by
  intro l0 a1 _ _ w0 _
  obtain ⟨cx, sx⟩ := tame_ok w0 512
  have tx := tame_f l0 512 (by omega)
  generalize tr (l0.take 512) = x at *
  refine ev_out (r := true) ?_
  unfold fluxionlaw01_NatReads.f
  have vx := val_nonneg cx.1
  have bx := val_512 cx.1 sx
  have hT := Text_ok cx sx
  have j4 := reads_j4 a1
  have sx2 : x.length ≤ 1000000 := by omega
  rcases Nat.eq_zero_or_pos x.length with h0 | h0
  · obtain rfl := List.eq_nil_of_length_eq_zero h0
    rw [if_pos h0] at hT
    have hP : Ev (fun k => nat_Parse.f k (⟨#[48]⟩ : ByteArray)) ([], 0) := Parse_good (⟨#[48]⟩ : ByteArray) (by decide) (by decide) (fun _ => rfl) (fun t ht => by
      obtain rfl : t = 0 := by
        have : (⟨#[48]⟩ : ByteArray).size = 1 := rfl
        omega
      exact ⟨by decide, by decide⟩)
    have j2 : Ev (fun k => fluxionlaw01_NatReads.j2 k a1 [] (⟨#[48]⟩ : ByteArray) false) true := by
      refine ev_succ ?_
      simp only [fluxionlaw01_NatReads.j2]
      exact ev_else (by decide) j4
    have j1 : Ev (fun k => fluxionlaw01_NatReads.j1 k a1 [] (⟨#[48]⟩ : ByteArray)) true := by
      refine ev_succ ?_
      simp only [fluxionlaw01_NatReads.j1]
      exact ev_else (by decide) j2
    have j0 : Ev (fun k => fluxionlaw01_NatReads.j0 k a1 [] (⟨#[48]⟩ : ByteArray) false) true := by
      refine ev_succ ?_
      simp only [fluxionlaw01_NatReads.j0]
      exact ev_else (by decide) (Ev.bind hP (ev_else (by decide) (ev_if rfl (Ev.bind (same_true rfl (by decide)) (ev_if rfl j1)))))
    exact Ev.bind tx (Ev.bind hT (ev_if rfl (ev_else (by decide) j0)))
  · rw [if_neg (by omega)] at hT
    have hv := cx.pos h0
    have hlen := long_text vx bx
    have hlp : 0 < (dec (val x)).length := by rw [dec_step hv]; simp
    have hsz : (strOfNums (dec (val x)).reverse).size = (dec (val x)).length := by rw [str_size, List.length_reverse]
    have e10 : 0 < 10 * val x := by omega
    have l10 : (num (10 * val x)).length ≤ x.length + 1 := num_len (by omega) (by have := val_lt cx.1; rw [pw_succ]; have := pw_pos x.length; omega)
    have c10 : Canon [10] := ⟨dig_cons.2 ⟨by omega, dig_nil⟩, .inr (by decide)⟩
    have hm := product_ok cx c10 sx (by decide)
    rw [show val [10] = 10 from rfl, Int.mul_comm] at hm
    generalize hs : strOfNums (dec (val x)).reverse = s at *
    have j2 : Ev (fun k => fluxionlaw01_NatReads.j2 k a1 x s (decide ((x.length : Int) < 512))) true := by
      by_cases hl : x.length < 512
      · rw [decide_eq_true (show (x.length : Int) < 512 by omega)]
        have hT2 := Text_ok (x := num (10 * val x)) (num_canon (by omega)) (by omega)
        rw [num_val (by omega), if_neg (by have := (num_len_pos (show 0 ≤ 10 * val x by omega)).2 e10; omega), dec_step e10, show 10 * val x % 10 = 0 by omega, show 10 * val x / 10 = val x by omega, List.reverse_cons] at hT2
        have j3 : Ev (fun k => fluxionlaw01_NatReads.j3 k a1 s (num (10 * val x)) false) true := by
          refine ev_succ ?_
          simp only [fluxionlaw01_NatReads.j3]
          exact ev_else (by decide) (Ev.bind hT2 (ev_if rfl (ev_if (by omega) (ev_if (by rw [← hs]; exact nought_more _) j4))))
        have hd : decide (((num (10 * val x)).length : Int) > wrap64 ((x.length : Int) + 1)) = false := by
          rw [w64s _ (by omega)]
          exact decide_eq_false (by omega)
        refine ev_succ ?_
        simp only [fluxionlaw01_NatReads.j2]
        refine ev_if (by decide) (Ev.bind hm (ev_if rfl ?_))
        rw [hd]
        exact j3
      · rw [decide_eq_false (show ¬ (x.length : Int) < 512 by omega)]
        refine ev_succ ?_
        simp only [fluxionlaw01_NatReads.j2]
        exact ev_else (by decide) j4
    have j1 : Ev (fun k => fluxionlaw01_NatReads.j1 k a1 x s) true := by
      refine ev_succ ?_
      simp only [fluxionlaw01_NatReads.j1]
      exact ev_if (by omega) j2
    have j0 : Ev (fun k => fluxionlaw01_NatReads.j0 k a1 x s false) true := by
      refine ev_succ ?_
      simp only [fluxionlaw01_NatReads.j0]
      refine ev_else (by decide) ?_
      by_cases hl : 4900 < s.size
      · exact Ev.bind (Parse_long s hl) (ev_if (by omega) (ev_if rfl (ev_else (by decide) j1)))
      · have hf : bt s 0 ≠ 48 := by rw [← hs]; exact first_byte hv
        have hD : ∀ t, t < s.size → IsD s t := by rw [← hs]; exact (dec_DD vx).reverse.isD
        have hP := Parse_good s (by omega) (by omega) (fun e => absurd e hf) hD
        have ht : tv s s.size = val x := by
          rw [hsz, ← hs]
          exact tv_dec (val x).toNat (val x) vx (by omega)
        rw [ht, num_of cx] at hP
        exact Ev.bind hP (ev_else (by omega) (ev_if rfl (Ev.bind (same_true rfl sx2) (ev_if rfl j1))))
    refine Ev.bind tx (Ev.bind hT (ev_if rfl (ev_else (show ¬ (s.size : Int) < 1 by omega) ?_)))
    rw [show decide (((s, (0 : Int)).1.size : Int) > 5000) = false from decide_eq_false (show ¬ (s.size : Int) > 5000 by omega)]
    exact j0
end Go.Proofs.Ytceglknbonfdeaa.Pure
