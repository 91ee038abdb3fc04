-- Printed by a program for this claim (wip/myprint.sh, wip/patchprint.py, wip/regroup.py)
import Derived.Test.YtceglknbonfdeaaX0
import Derived.Test.YtceglknbonfdeaaDNatBits
import Derived.Test.YtceglknbonfdeaaC8
import Derived.Test.YtceglknbonfdeaaM2
import Derived.Test.YtceglknbonfdeaaM3
namespace Go.Proofs.Ytceglknbonfdeaa.PNat
open Go.RowKit Go.Proofs.YtceglknbonfdeaaW.PrintWords Go.Proofs.YtceglknbonfdeaaW.PrintLast Go.Proofs.YtceglknbonfdeaaW.PrintMore
attribute [local go_sem] max2_int min2_int max_two min_two max_three min_three max_four min_four   -- for this text's walks alone
set_option linter.unusedVariables false
set_option linter.unusedSimpArgs false

def fluxionlaw01_NatBits.T12 : Bool × List (List Nat × List Nat) := (true, [([], []), ([0], [0]), ([1], [1]), ([2, 2], [2]), ([], []), ([4], [4]), ([5], [5]), ([6], [6]), ([7, 7], [7]), ([3, 0, 1, 2, 3], [3]), ([8, 9, 0, 1, 2, 3, 4, 5, 6, 7, 8, 9], [8])])
def fluxionlaw01_NatBits.B12 : List Nat := [0, 1, 3, 7, 0, 16, 48, 112, 240, 15, 1023]
theorem fluxionlaw01_NatBits.tab12 : rtab .any (opsOf Try.f11 12) = fluxionlaw01_NatBits.T12 := by kernel_rfl
theorem fluxionlaw01_NatBits.bits12 : waitsOk fluxionlaw01_NatBits.T12.2 fluxionlaw01_NatBits.B12 = true := by kernel_rfl
set_option maxHeartbeats 8000000 in
set_option maxRecDepth 100000 in
theorem fluxionlaw01_NatBits.calls (k : Nat) (A0 : Option Addr) (c0 : Nat) (l0 : List Int) (A1 : Option Addr) (c1 : Nat) (l1 : List Int) (r : Bool) (w : World) (hr0 : Kd.C (Kd.int .u32) w A0 l0.length l0) (hc0 : l0.length ≤ c0) (hr1 : Kd.C (Kd.int .u32) w A1 l1.length l1) (hc1 : l1.length ≤ c1) (h : fluxionlaw01_NatBits.f k l0 l1 = some r) :
    Calls Try.prog 11 #[.slice A0 l0.length c0, .slice A1 l1.length c1] w fun e w' => e = .returned (.bool r) ∧ Below w.heap.size w w' := by
  have HR0 := Aside0.mk hr0
  have HC0 := Aside0.mk hc0
  clear hr0 hc0
  have HR1 := Aside0.mk hr1
  have HC1 := Aside0.mk hc1
  clear hr1 hc1
  have HB := Aside0.mk (Below.refl w.heap.size w)
  have H : ((fluxionlaw01_tame.f k l0 100).bind fun t766 => ((fluxionlaw01_tame.f k l1 100).bind fun t769 => ((nat_Bits.f k t766).bind fun bt772 => ((nat_Bits.f k t769).bind fun bt774 => ((fluxionlaw01_product.f k t766 t769).bind fun bt776 => (if bt772.2 = 0 then (if bt774.2 = 0 then (if bt776.2 = true then (if (bt776.1.length : Int) > 200 then none else (if bt772.1 < 0 then none else (if bt772.1 > 3200 then none else (if bt774.1 < 0 then none else (fluxionlaw01_NatBits.j0 k t766 t769 bt772.1 bt774.1 bt776.1 (decide (bt774.1 > 3200))))))) else none) else none) else none)))))) = some r := h
  clear h
  replace H := Option.bind_eq_some_iff.mp H
  obtain ⟨t766, A30, H⟩ := H
  replace H : ((fluxionlaw01_tame.f k l1 100).bind fun t769 => ((nat_Bits.f k t766).bind fun bt772 => ((nat_Bits.f k t769).bind fun bt774 => ((fluxionlaw01_product.f k t766 t769).bind fun bt776 => (if bt772.2 = 0 then (if bt774.2 = 0 then (if bt776.2 = true then (if (bt776.1.length : Int) > 200 then none else (if bt772.1 < 0 then none else (if bt772.1 > 3200 then none else (if bt774.1 < 0 then none else (fluxionlaw01_NatBits.j0 k t766 t769 bt772.1 bt774.1 bt776.1 (decide (bt774.1 > 3200))))))) else none) else none) else none))))) = some r := H
  have A3 := Aside0.mk A30
  clear A30
  replace H := Option.bind_eq_some_iff.mp H
  obtain ⟨t769, A40, H⟩ := H
  replace H : ((nat_Bits.f k t766).bind fun bt772 => ((nat_Bits.f k t769).bind fun bt774 => ((fluxionlaw01_product.f k t766 t769).bind fun bt776 => (if bt772.2 = 0 then (if bt774.2 = 0 then (if bt776.2 = true then (if (bt776.1.length : Int) > 200 then none else (if bt772.1 < 0 then none else (if bt772.1 > 3200 then none else (if bt774.1 < 0 then none else (fluxionlaw01_NatBits.j0 k t766 t769 bt772.1 bt774.1 bt776.1 (decide (bt774.1 > 3200))))))) else none) else none) else none)))) = some r := H
  have A4 := Aside0.mk A40
  clear A40
  replace H := Option.bind_eq_some_iff.mp H
  obtain ⟨⟨t772, t773⟩, A50, H⟩ := H
  replace H : ((nat_Bits.f k t769).bind fun bt774 => ((fluxionlaw01_product.f k t766 t769).bind fun bt776 => (if t773 = 0 then (if bt774.2 = 0 then (if bt776.2 = true then (if (bt776.1.length : Int) > 200 then none else (if t772 < 0 then none else (if t772 > 3200 then none else (if bt774.1 < 0 then none else (fluxionlaw01_NatBits.j0 k t766 t769 t772 bt774.1 bt776.1 (decide (bt774.1 > 3200))))))) else none) else none) else none))) = some r := H
  have A5 := Aside0.mk A50
  clear A50
  replace H := Option.bind_eq_some_iff.mp H
  obtain ⟨⟨t774, t775⟩, A60, H⟩ := H
  replace H : ((fluxionlaw01_product.f k t766 t769).bind fun bt776 => (if t773 = 0 then (if t775 = 0 then (if bt776.2 = true then (if (bt776.1.length : Int) > 200 then none else (if t772 < 0 then none else (if t772 > 3200 then none else (if t774 < 0 then none else (fluxionlaw01_NatBits.j0 k t766 t769 t772 t774 bt776.1 (decide (t774 > 3200))))))) else none) else none) else none)) = some r := H
  have A6 := Aside0.mk A60
  clear A60
  replace H := Option.bind_eq_some_iff.mp H
  obtain ⟨⟨t776, t779⟩, A70, H⟩ := H
  replace H : (if t773 = 0 then (if t775 = 0 then (if t779 = true then (if (t776.length : Int) > 200 then none else (if t772 < 0 then none else (if t772 > 3200 then none else (if t774 < 0 then none else (fluxionlaw01_NatBits.j0 k t766 t769 t772 t774 t776 (decide (t774 > 3200))))))) else none) else none) else none) = some r := H
  have A7 := Aside0.mk A70
  clear A70
  have HC8 := Aside0.mk H
  clear H
  go_enter Try.func11, Try.ntmps11
  go_upto_region 5 with (first | ((with_reducible refine gate_callee (f := 37) rfl ?_); refine goesL_ (some 22) rfl rfl Try.func37 (by kernel_rfl) rfl #[.slice A0 l0.length c0, .int .i64 100] rfl (by (try simp only [List.map_toArray, List.map_cons, List.map_nil]); first | done | rfl | (simp only [List.length_drop, List.length_take]; rfl)) ?_; (with_reducible refine (fluxionlaw01_tame.calls k _ _ l0 100 t766 _ ?side1 ?side2 A3.out).mono ?_); (case side1 => repeat (first | exact HR0.out | (with_reducible refine Kd.C_alloc ?_ _) | (with_reducible refine Kd.C_drewN ?_ _) | (with_reducible refine Kd.C_drew ?_))); (case side2 => exact HC0.out); rintro e w9 ⟨v767, rfl, ho0, hb⟩; refine ⟨_, rfl, ?_⟩; have n0_ := Aside0.mk (Kd.R_lower ho0 (below_size (by repeat (first | (with_reducible first | exact HB.out | apply below_alloc | apply pw_below_drewN | apply below_drew1) | exact HB.out)))); have n1_ := Aside0.mk (below_step (by repeat (first | (with_reducible first | exact HB.out | apply below_alloc | apply pw_below_drewN | apply below_drew1) | exact HB.out)) hb); clear HB; have HO768 := n0_; have HB := n1_; clear n0_ n1_; (try clear hb); (try clear hb2); (try clear hk); (try clear hi); (try clear ho0)) | ((with_reducible refine gate_callee (f := 37) rfl ?_); refine goesL_ (some 24) rfl rfl Try.func37 (by kernel_rfl) rfl #[.slice A1 l1.length c1, .int .i64 100] rfl (by (try simp only [List.map_toArray, List.map_cons, List.map_nil]); first | done | rfl | (simp only [List.length_drop, List.length_take]; rfl)) ?_; (with_reducible refine (fluxionlaw01_tame.calls k _ _ l1 100 t769 _ ?side1 ?side2 A4.out).mono ?_); (case side1 => repeat (first | exact (Kd.C_below HR1.out HB.out) | (with_reducible refine Kd.C_alloc ?_ _) | (with_reducible refine Kd.C_drewN ?_ _) | (with_reducible refine Kd.C_drew ?_))); (case side2 => exact HC1.out); rintro e w10 ⟨v770, rfl, ho0, hb⟩; refine ⟨_, rfl, ?_⟩; have n0_ := Aside0.mk (Kd.R_elder' (by (with_reducible repeat (first | apply Kd.R_alloc | apply Kd.R_drewN | apply Kd.R_drew)); exact HO768.out) (Kd.R_base ho0) hb); have n1_ := Aside0.mk (Kd.R_lower (Kd.R_new' ho0 (Kd.R_lt (by (with_reducible repeat (first | apply Kd.R_alloc | apply Kd.R_drewN | apply Kd.R_drew)); exact HO768.out))) (below_size (by repeat (first | (with_reducible first | exact HB.out | apply below_alloc | apply pw_below_drewN | apply below_drew1) | exact HB.out)))); have n2_ := Aside0.mk (below_step (by repeat (first | (with_reducible first | exact HB.out | apply below_alloc | apply pw_below_drewN | apply below_drew1) | exact HB.out)) hb); clear HO768; clear HB; have HO768 := n0_; have HO771 := n1_; have HB := n2_; clear n0_ n1_ n2_; (try clear hb); (try clear hb2); (try clear hk); (try clear hi); (try clear ho0); obtain ⟨Ao11, co11, eo11⟩ := Kd.R_slice HO768.out; subst eo11) | ((with_reducible refine gate_callee (f := 43) rfl ?_); refine goesL_ (some 27) rfl rfl Try.func43 (by kernel_rfl) rfl #[.slice Ao11 t766.length co11] rfl (by (try simp only [List.map_toArray, List.map_cons, List.map_nil]); first | done | rfl | (simp only [List.length_drop, List.length_take]; rfl)) ?_; (with_reducible refine (nat_Bits.calls k (fun k_ => some k_ = (.slice Ao11 t766.length co11 : Value).ownBlock) _ _ t766 t772 t773 _ ?side1 A5.out).mono ?_); (case side1 => exact Kd.R_V (Kd.R_tight rfl (HO768.out))); rintro e w12 ⟨rfl, hb⟩; refine ⟨_, rfl, ?_⟩; have n0_ := Aside0.mk (Kd.R_below (by (with_reducible repeat (first | apply Kd.R_alloc | apply Kd.R_drewN | apply Kd.R_drew)); exact HO768.out) hb); have n1_ := Aside0.mk (Kd.R_below (by (with_reducible repeat (first | apply Kd.R_alloc | apply Kd.R_drewN | apply Kd.R_drew)); exact HO771.out) hb); have n2_ := Aside0.mk (below_step (by repeat (first | (with_reducible first | exact HB.out | apply below_alloc | apply pw_below_drewN | apply below_drew1) | exact HB.out)) hb); clear HO768; clear HO771; clear HB; have HO768 := n0_; have HO771 := n1_; have HB := n2_; clear n0_ n1_ n2_; (try clear hb); (try clear hb2); (try clear hk); (try clear hi); obtain ⟨Ao13, co13, eo13⟩ := Kd.R_slice HO771.out; subst eo13) | ((with_reducible refine gate_callee (f := 43) rfl ?_); refine goesL_ (some 32) rfl rfl Try.func43 (by kernel_rfl) rfl #[.slice Ao13 t769.length co13] rfl (by (try simp only [List.map_toArray, List.map_cons, List.map_nil]); first | done | rfl | (simp only [List.length_drop, List.length_take]; rfl)) ?_; (with_reducible refine (nat_Bits.calls k (fun k_ => some k_ = (.slice Ao13 t769.length co13 : Value).ownBlock) _ _ t769 t774 t775 _ ?side1 A6.out).mono ?_); (case side1 => exact Kd.R_V (Kd.R_tight rfl (HO771.out))); rintro e w14 ⟨rfl, hb⟩; refine ⟨_, rfl, ?_⟩; have n0_ := Aside0.mk (Kd.R_below (by (with_reducible repeat (first | apply Kd.R_alloc | apply Kd.R_drewN | apply Kd.R_drew)); exact HO768.out) hb); have n1_ := Aside0.mk (Kd.R_below (by (with_reducible repeat (first | apply Kd.R_alloc | apply Kd.R_drewN | apply Kd.R_drew)); exact HO771.out) hb); have n2_ := Aside0.mk (below_step (by repeat (first | (with_reducible first | exact HB.out | apply below_alloc | apply pw_below_drewN | apply below_drew1) | exact HB.out)) hb); clear HO768; clear HO771; clear HB; have HO768 := n0_; have HO771 := n1_; have HB := n2_; clear n0_ n1_ n2_; (try clear hb); (try clear hb2); (try clear hk); (try clear hi)) | ((with_reducible refine gate_callee (f := 38) rfl ?_); refine goesL_ (some 38) rfl rfl Try.func38 (by kernel_rfl) rfl #[.slice Ao11 t766.length co11, .slice Ao13 t769.length co13] rfl (by (try simp only [List.map_toArray, List.map_cons, List.map_nil]); first | done | rfl | (simp only [List.length_drop, List.length_take]; rfl)) ?_; (with_reducible refine (fluxionlaw01_product.calls k (fun k_ => some k_ = (.slice Ao11 t766.length co11 : Value).ownBlock) _ _ t766 (fun k_ => some k_ = (.slice Ao13 t769.length co13 : Value).ownBlock) _ _ t769 t776 t779 _ ?side1 ?side2 A7.out).mono ?_); (case side1 => exact Kd.R_V (Kd.R_tight rfl (HO768.out))); (case side2 => exact Kd.R_V (Kd.R_tight rfl (HO771.out))); rintro e w15 ⟨v777, rfl, ho0, hb⟩; refine ⟨_, rfl, ?_⟩; have n0_ := Aside0.mk (Kd.R_below (by (with_reducible repeat (first | apply Kd.R_alloc | apply Kd.R_drewN | apply Kd.R_drew)); exact HO768.out) hb); have n1_ := Aside0.mk (Kd.R_below (by (with_reducible repeat (first | apply Kd.R_alloc | apply Kd.R_drewN | apply Kd.R_drew)); exact HO771.out) hb); have n2_ := Aside0.mk (Kd.V_lower (Kd.V_mono (ok' := fun k_ => True) ho0 (fun k_ hk_ => trivial)) (below_size (by repeat (first | (with_reducible first | exact HB.out | apply below_alloc | apply pw_below_drewN | apply below_drew1) | exact HB.out)))); have n3_ := Aside0.mk (below_step (by repeat (first | (with_reducible first | exact HB.out | apply below_alloc | apply pw_below_drewN | apply below_drew1) | exact HB.out)) hb); clear HO768; clear HO771; clear HB; have HO768 := n0_; have HO771 := n1_; have HO778 := n2_; have HB := n3_; clear n0_ n1_ n2_ n3_; (try clear hb); (try clear hb2); (try clear hk); (try clear hi); (try clear ho0)))
  (try simp only [Act.put, List.setIfInBounds_toArray, List.set_cons_zero, List.set_cons_succ])
  go_cut [71] (fun v71 wc => ∃ (kq : Nat) (x71_7 : Bool), v71 = .bool x71_7 ∧ Aside0 (fluxionlaw01_NatBits.j0 kq t766 t769 t772 t774 t776 x71_7 = some r) ∧ Aside0 (kq ≤ k) ∧ Aside0 (Kd.R (Kd.int .u32) 47 wc w.heap.size (fun k_ => some k_ ≠ ((.slice Ao13 t769.length co13) : Value).ownBlock) (.slice Ao11 t766.length co11) t766) ∧ Aside0 (Kd.R (Kd.int .u32) 47 wc w.heap.size (fun k_ => some k_ ≠ ((.slice Ao11 t766.length co11) : Value).ownBlock) (.slice Ao13 t769.length co13) t769) ∧ Aside0 (Kd.V (Kd.int .u32) 47 wc w.heap.size (fun _ => True) v777 t776) ∧ Aside0 (Below w.heap.size w wc))
  case first => as_aux_lemma =>
    have H := HC8.out
    clear HC8
    by_cases c16 : t773 = 0
    · rw [if_pos c16] at H
      have c16b0 : (t773 == 0) = true := beq_iff_eq.mpr c16
      have c16b1 : (t773 != 0) = false := bne_eq_false_iff_eq.mpr c16
      clear c16
      (first | rw [c16b0] | (simp only [i64_w, i32_w]; rw [c16b0]) | skip)
      by_cases c17 : t775 = 0
      · rw [if_pos c17] at H
        have c17b0 : (t775 == 0) = true := beq_iff_eq.mpr c17
        have c17b1 : (t775 != 0) = false := bne_eq_false_iff_eq.mpr c17
        clear c17
        by_cases c18 : t779 = true
        · subst c18
          have H1 : (if (t776.length : Int) > 200 then none else (if t772 < 0 then none else (if t772 > 3200 then none else (if t774 < 0 then none else (fluxionlaw01_NatBits.j0 k t766 t769 t772 t774 t776 (decide (t774 > 3200))))))) = some r := by rw [if_pos rfl] at H; exact H
          clear H
          have H := H1
          clear H1
          by_cases c19 : (t776.length : Int) > 200
          · rw [if_pos c19] at H
            exact absurd H (by simp)
          · rw [if_neg c19] at H
            have c19b0 : decide (200 < (t776.length : Int)) = false := decide_eq_false c19
            have c19b1 : decide (200 < t776.length) = false := decide_eq_false (by omega)
            clear c19
            by_cases c21 : t772 < 0
            · rw [if_pos c21] at H
              exact absurd H (by simp)
            · rw [if_neg c21] at H
              have c21b0 : decide (t772 < 0) = false := decide_eq_false c21
              clear c21
              by_cases c23 : t772 > 3200
              · rw [if_pos c23] at H
                exact absurd H (by simp)
              · rw [if_neg c23] at H
                have c23b0 : decide (3200 < t772) = false := decide_eq_false c23
                clear c23
                by_cases c25 : t774 < 0
                · rw [if_pos c25] at H
                  exact absurd H (by simp)
                · rw [if_neg c25] at H
                  have c25b0 : decide (t774 < 0) = false := decide_eq_false c25
                  clear c25
                  have H' := Aside0.mk H
                  clear H
                  obtain ⟨Ao27, co27, eo27⟩ := Kd.V_slice HO778.out
                  subst eo27
                  go_wp2
                  go_meet
                  case rel => exact ⟨_, (decide (t774 > 3200)), (by first | rfl | (simp; done) | (simp [*]; done)), H', ⟨by first | omega | exact Nat.le_refl _⟩, ⟨by (with_reducible repeat (first | apply Kd.R_alloc | apply Kd.R_drewN | apply Kd.R_drew)); exact Kd.R_mono HO768.out (fun _ hk => hk.2)⟩, ⟨by (with_reducible repeat (first | apply Kd.R_alloc | apply Kd.R_drewN | apply Kd.R_drew)); exact Kd.R_mono HO771.out (fun _ hk => hk.2)⟩, ⟨by (with_reducible repeat (first | apply Kd.V_alloc | apply Kd.V_drewN | apply Kd.V_drew)); exact HO778.out⟩, ⟨by repeat (first | (with_reducible first | exact HB.out | apply below_alloc | apply pw_below_drewN | apply below_drew1) | exact HB.out)⟩⟩
        · replace c18 := Bool.eq_false_iff.mpr c18
          subst c18
          have H1 : none = some r := by rw [if_neg (show ¬ (false = true) by decide)] at H; exact H
          exact absurd H1 (by simp)
      · rw [if_neg c17] at H
        exact absurd H (by simp)
    · rw [if_neg c16] at H
      exact absurd H (by simp)
  case rest => as_aux_lemma =>
    clear HC8
    try clear c1
    try clear c2
    try clear p2
    try clear c3
    try clear c4
    try clear c11
    try clear c16
    try clear c16b0
    try clear c16b1
    try clear c17
    try clear c17b0
    try clear c17b1
    try clear c18
    try clear c19
    try clear c19b0
    try clear c19b1
    try clear c21
    try clear c21b0
    try clear c23
    try clear c23b0
    try clear c25
    try clear c25b0
    obtain ⟨kq, x71_7, rfl, HA, HJ7, HO_5, HO_6, HO_11, HB⟩ := hcut
    cases kq with
    | zero => exact absurd HA.out (by simp [fluxionlaw01_NatBits.j0])
    | succ kj7 =>
      have H := HA.out
      clear HA
      simp only [fluxionlaw01_NatBits.j0] at H
      by_cases c28 : x71_7 = true
      · subst c28
        have H1 : none = some r := by rw [if_pos rfl] at H; exact H
        exact absurd H1 (by simp)
      · replace c28 := Bool.eq_false_iff.mpr c28
        subst c28
        have H1 : ((nat_Bits.f kj7 t776).bind fun bt780 => (if (t766.length : Int) = 0 then (fluxionlaw01_NatBits.j1 kj7 t766 t769 t772 t774 bt780.1 bt780.2 true) else (fluxionlaw01_NatBits.j1 kj7 t766 t769 t772 t774 bt780.1 bt780.2 ((t769.length : Int) == 0)))) = some r := by rw [if_neg (show ¬ (false = true) by decide)] at H; exact H
        clear H
        have H := H1
        clear H1
        replace H := Option.bind_eq_some_iff.mp H
        obtain ⟨⟨t780, t781⟩, A290, H⟩ := H
        replace H : (if (t766.length : Int) = 0 then (fluxionlaw01_NatBits.j1 kj7 t766 t769 t772 t774 t780 t781 true) else (fluxionlaw01_NatBits.j1 kj7 t766 t769 t772 t774 t780 t781 ((t769.length : Int) == 0))) = some r := H
        have A29 := Aside0.mk A290
        clear A290
        have HC30 := Aside0.mk H
        clear H
        obtain ⟨Ao31, co31, eo31⟩ := Kd.V_slice HO_11.out
        subst eo31
        go_upto_region 8 with (first | ((with_reducible refine gate_callee (f := 43) rfl ?_); refine goesL_ (some 74) rfl rfl Try.func43 (by kernel_rfl) rfl #[.slice Ao31 t776.length co31] rfl (by (try simp only [List.map_toArray, List.map_cons, List.map_nil]); first | done | rfl | (simp only [List.length_drop, List.length_take]; rfl)) ?_; (with_reducible refine (nat_Bits.calls kj7 (fun k_ => True) _ _ t776 t780 t781 _ ?side1 A29.out).mono ?_); (case side1 => exact HO_11.out); rintro e w32 ⟨rfl, hb⟩; refine ⟨_, rfl, ?_⟩; have n0_ := Aside0.mk (Kd.R_below (by (with_reducible repeat (first | apply Kd.R_alloc | apply Kd.R_drewN | apply Kd.R_drew)); exact HO_5.out) hb); have n1_ := Aside0.mk (Kd.R_below (by (with_reducible repeat (first | apply Kd.R_alloc | apply Kd.R_drewN | apply Kd.R_drew)); exact HO_6.out) hb); have n2_ := Aside0.mk (Kd.V_below (by (with_reducible repeat (first | apply Kd.V_alloc | apply Kd.V_drewN | apply Kd.V_drew)); exact HO_11.out) hb); have n3_ := Aside0.mk (below_step (by repeat (first | (with_reducible first | exact HB.out | apply below_alloc | apply pw_below_drewN | apply below_drew1) | exact HB.out)) hb); clear HO_5; clear HO_6; clear HO_11; clear HB; have HO_5 := n0_; have HO_6 := n1_; have HO_11 := n2_; have HB := n3_; clear n0_ n1_ n2_ n3_; (try clear hb); (try clear hb2); (try clear hk); (try clear hi)))
        (try simp only [Act.put, List.setIfInBounds_toArray, List.set_cons_zero, List.set_cons_succ])
        go_cut [84] (fun v84 wc => ∃ (kq : Nat) (x84_29 : Bool), v84 = .bool x84_29 ∧ Aside0 (fluxionlaw01_NatBits.j1 kq t766 t769 t772 t774 t780 t781 x84_29 = some r) ∧ Aside0 (kq ≤ kj7) ∧ Aside0 (Kd.R (Kd.int .u32) 47 wc w.heap.size (fun k_ => some k_ ≠ ((.slice Ao13 t769.length co13) : Value).ownBlock) (.slice Ao11 t766.length co11) t766) ∧ Aside0 (Kd.R (Kd.int .u32) 47 wc w.heap.size (fun k_ => some k_ ≠ ((.slice Ao11 t766.length co11) : Value).ownBlock) (.slice Ao13 t769.length co13) t769) ∧ Aside0 (Below w.heap.size w wc))
        case first => as_aux_lemma =>
          have H := HC30.out
          clear HC30
          by_cases c33 : (t766.length : Int) = 0
          · rw [if_pos c33] at H
            have c33b0 : ((t766.length : Int) == 0) = true := beq_iff_eq.mpr c33
            have c33b1 : ((t766.length : Int) != 0) = false := bne_eq_false_iff_eq.mpr c33
            clear c33
            (first | rw [c33b0] | (simp only [i64_w, i32_w]; rw [c33b0]) | skip)
            have H' := Aside0.mk H
            clear H
            go_wp2
            go_meet
            case rel => exact ⟨_, (true), (by first | rfl | (simp; done) | (simp [*]; done)), H', ⟨by have := HJ7.out; first | omega | exact Nat.le_refl _⟩, ⟨by (with_reducible repeat (first | apply Kd.R_alloc | apply Kd.R_drewN | apply Kd.R_drew)); exact HO_5.out⟩, ⟨by (with_reducible repeat (first | apply Kd.R_alloc | apply Kd.R_drewN | apply Kd.R_drew)); exact HO_6.out⟩, ⟨by repeat (first | (with_reducible first | exact HB.out | apply below_alloc | apply pw_below_drewN | apply below_drew1) | exact HB.out)⟩⟩
          · rw [if_neg c33] at H
            have c33b0 : ((t766.length : Int) == 0) = false := beq_eq_false_iff_ne.mpr c33
            have c33b1 : ((t766.length : Int) != 0) = true := bne_iff_ne.mpr c33
            have c33b2 : ¬ (t766 = []) := fun h_ => c33 (by rw [h_]; rfl)
            (first | rw [c33b0] | (simp only [i64_w, i32_w]; rw [c33b0]) | skip)
            have H' := Aside0.mk H
            clear H
            go_wp2
            go_meet
            case rel => exact ⟨_, (((t769.length : Int) == 0)), (by first | rfl | (simp; done) | (simp [*]; done)), H', ⟨by have := HJ7.out; first | omega | exact Nat.le_refl _⟩, ⟨by (with_reducible repeat (first | apply Kd.R_alloc | apply Kd.R_drewN | apply Kd.R_drew)); exact HO_5.out⟩, ⟨by (with_reducible repeat (first | apply Kd.R_alloc | apply Kd.R_drewN | apply Kd.R_drew)); exact HO_6.out⟩, ⟨by repeat (first | (with_reducible first | exact HB.out | apply below_alloc | apply pw_below_drewN | apply below_drew1) | exact HB.out)⟩⟩
        case rest => as_aux_lemma =>
          clear HC30
          try clear c1
          try clear c2
          try clear p2
          try clear c3
          try clear c4
          try clear c11
          try clear c16
          try clear c16b0
          try clear c16b1
          try clear c17
          try clear c17b0
          try clear c17b1
          try clear c18
          try clear c19
          try clear c19b0
          try clear c19b1
          try clear c21
          try clear c21b0
          try clear c23
          try clear c23b0
          try clear c25
          try clear c25b0
          try clear c28
          try clear c33
          try clear c33b0
          try clear c33b1
          try clear c33b2
          try clear p2
          obtain ⟨kq, x84_29, rfl, HA, HJ29, HO_5, HO_6, HB⟩ := hcut
          cases kq with
          | zero => exact absurd HA.out (by simp [fluxionlaw01_NatBits.j1])
          | succ kj29 =>
            have H := HA.out
            clear HA
            simp only [fluxionlaw01_NatBits.j1] at H
            by_cases c34 : x84_29 = true
            · subst c34
              have H1 : (if t781 = 0 then (if t780 = 0 then (if ((t772 == 0) == ((t766.length : Int) == 0)) = true then (if ((t774 == 0) == ((t769.length : Int) == 0)) = true then ((fluxionlaw01_alive.f).bind fun t782 => (some t782)) else none) else none) else none) else none) = some r := by rw [if_pos rfl] at H; exact H
              clear H
              have H := H1
              clear H1
              by_cases c35 : t781 = 0
              · rw [if_pos c35] at H
                have c35b0 : (t781 == 0) = true := beq_iff_eq.mpr c35
                have c35b1 : (t781 != 0) = false := bne_eq_false_iff_eq.mpr c35
                clear c35
                by_cases c36 : t780 = 0
                · rw [if_pos c36] at H
                  have c36b0 : (t780 == 0) = true := beq_iff_eq.mpr c36
                  have c36b1 : (t780 != 0) = false := bne_eq_false_iff_eq.mpr c36
                  clear c36
                  by_cases c37 : ((t772 == 0) == ((t766.length : Int) == 0)) = true
                  · rw [if_pos c37] at H
                    have c37b0 : ((t772 == 0) == ((t766.length : Int) == 0)) = true := c37
                    (try (have c37b1 : decide ((t772 == 0) = ((t766.length : Int) == 0)) = true := by simpa using c37))
                    (try (have c37b2 : ((t772 == 0) == ((t766.length : Int) == 0)) = true := by simpa using c37))
                    clear c37
                    by_cases c38 : ((t774 == 0) == ((t769.length : Int) == 0)) = true
                    · rw [if_pos c38] at H
                      have c38b0 : ((t774 == 0) == ((t769.length : Int) == 0)) = true := c38
                      (try (have c38b1 : decide ((t774 == 0) = ((t769.length : Int) == 0)) = true := by simpa using c38))
                      (try (have c38b2 : ((t774 == 0) == ((t769.length : Int) == 0)) = true := by simpa using c38))
                      clear c38
                      replace H := Option.bind_eq_some_iff.mp H
                      obtain ⟨t782, A390, H⟩ := H
                      replace H : (some t782) = some r := H
                      have A39 := Aside0.mk A390
                      clear A390
                      obtain rfl := Option.some.inj H
                      go_wp2_with (first | (go_at_call 23; (with_reducible refine (fluxionlaw01_alive.calls  t782 _ A39.out).mono ?_); rintro e w40 ⟨rfl, hb⟩; have n0_ := Aside0.mk (Kd.R_below (by (with_reducible repeat (first | apply Kd.R_alloc | apply Kd.R_drewN | apply Kd.R_drew)); exact HO_5.out) hb); have n1_ := Aside0.mk (Kd.R_below (by (with_reducible repeat (first | apply Kd.R_alloc | apply Kd.R_drewN | apply Kd.R_drew)); exact HO_6.out) hb); have n2_ := Aside0.mk (below_step (by repeat (first | (with_reducible first | exact HB.out | apply below_alloc | apply pw_below_drewN | apply below_drew1) | exact HB.out)) hb); clear HO_5; clear HO_6; clear HB; have HO_5 := n0_; have HO_6 := n1_; have HB := n2_; clear n0_ n1_ n2_; (try clear hb); (try clear hb2); (try clear hk); (try clear hi)))
                      go_ret
                      exact ⟨by first | rfl | (simp [errW_none, errW_some] <;> rfl) | (simp [*, errW_none, errW_some] <;> rfl), by repeat (first | (with_reducible first | exact HB.out | apply below_alloc | apply pw_below_drewN | apply below_drew1) | exact HB.out)⟩
                    · rw [if_neg c38] at H
                      exact absurd H (by simp)
                  · rw [if_neg c37] at H
                    exact absurd H (by simp)
                · rw [if_neg c36] at H
                  exact absurd H (by simp)
              · rw [if_neg c35] at H
                exact absurd H (by simp)
            · replace c34 := Bool.eq_false_iff.mpr c34
              subst c34
              have H1 : (if t781 = 0 then (if t780 = (wrap64 (t772 + t774)) then (fluxionlaw01_NatBits.j2 kj29 t766 t772 (decide (t772 < 1))) else (if t780 = (wrap64 ((wrap64 (t772 + t774)) - 1)) then (fluxionlaw01_NatBits.j2 kj29 t766 t772 (decide (t772 < 1))) else none)) else none) = some r := by rw [if_neg (show ¬ (false = true) by decide)] at H; exact H
              clear H
              have H := H1
              clear H1
              have HC41 := Aside0.mk H
              clear H
              go_upto_region 10 with (fail)
              go_cut [130] (fun v130 wc => ∃ (kq : Nat) (x130_40 : Bool), v130 = .bool x130_40 ∧ Aside0 (fluxionlaw01_NatBits.j2 kq t766 t772 x130_40 = some r) ∧ Aside0 (kq ≤ kj29) ∧ Aside0 (Kd.R (Kd.int .u32) 47 wc w.heap.size (fun _ => True) (.slice Ao11 t766.length co11) t766) ∧ Aside0 (Below w.heap.size w wc))
              case first => as_aux_lemma =>
                have H := HC41.out
                clear HC41
                by_cases c42 : t781 = 0
                · rw [if_pos c42] at H
                  have c42b0 : (t781 == 0) = true := beq_iff_eq.mpr c42
                  have c42b1 : (t781 != 0) = false := bne_eq_false_iff_eq.mpr c42
                  clear c42
                  (first | rw [c42b0] | (simp only [i64_w, i32_w]; rw [c42b0]) | skip)
                  by_cases c43 : t780 = (wrap64 (t772 + t774))
                  · rw [if_pos c43] at H
                    have c43b0 : (t780 == (wrap64 (t772 + t774))) = true := beq_iff_eq.mpr c43
                    have c43b1 : (t780 != (wrap64 (t772 + t774))) = false := bne_eq_false_iff_eq.mpr c43
                    clear c43
                    have H' := Aside0.mk H
                    clear H
                    go_wp2
                    go_meet
                    case rel => exact ⟨_, (decide (t772 < 1)), (by first | rfl | (simp; done) | (simp [*]; done)), H', ⟨by have := HJ7.out; have := HJ29.out; first | omega | exact Nat.le_refl _⟩, ⟨by (with_reducible repeat (first | apply Kd.R_alloc | apply Kd.R_drewN | apply Kd.R_drew)); exact Kd.R_mono HO_5.out (fun _ hk => trivial)⟩, ⟨by repeat (first | (with_reducible first | exact HB.out | apply below_alloc | apply pw_below_drewN | apply below_drew1) | exact HB.out)⟩⟩
                  · rw [if_neg c43] at H
                    have c43b0 : (t780 == (wrap64 (t772 + t774))) = false := beq_eq_false_iff_ne.mpr c43
                    have c43b1 : (t780 != (wrap64 (t772 + t774))) = true := bne_iff_ne.mpr c43
                    by_cases c44 : t780 = (wrap64 ((wrap64 (t772 + t774)) - 1))
                    · rw [if_pos c44] at H
                      have c44b0 : (t780 == (wrap64 ((wrap64 (t772 + t774)) - 1))) = true := beq_iff_eq.mpr c44
                      have c44b1 : (t780 != (wrap64 ((wrap64 (t772 + t774)) - 1))) = false := bne_eq_false_iff_eq.mpr c44
                      clear c44
                      have H' := Aside0.mk H
                      clear H
                      go_wp2
                      go_meet
                      case rel => exact ⟨_, (decide (t772 < 1)), (by first | rfl | (simp; done) | (simp [*]; done)), H', ⟨by have := HJ7.out; have := HJ29.out; first | omega | exact Nat.le_refl _⟩, ⟨by (with_reducible repeat (first | apply Kd.R_alloc | apply Kd.R_drewN | apply Kd.R_drew)); exact Kd.R_mono HO_5.out (fun _ hk => trivial)⟩, ⟨by repeat (first | (with_reducible first | exact HB.out | apply below_alloc | apply pw_below_drewN | apply below_drew1) | exact HB.out)⟩⟩
                    · rw [if_neg c44] at H
                      exact absurd H (by simp)
                · rw [if_neg c42] at H
                  exact absurd H (by simp)
              case rest => as_aux_lemma =>
                clear HC41
                try clear c1
                try clear c2
                try clear p2
                try clear c3
                try clear c4
                try clear p6
                try clear c11
                try clear c16
                try clear c16b0
                try clear c16b1
                try clear c17
                try clear c17b0
                try clear c17b1
                try clear c18
                try clear c19
                try clear c19b0
                try clear c19b1
                try clear c21
                try clear c21b0
                try clear c23
                try clear c23b0
                try clear c25
                try clear c25b0
                try clear c28
                try clear c33
                try clear c33b0
                try clear c33b1
                try clear c33b2
                try clear c34
                try clear c35
                try clear c35b0
                try clear c35b1
                try clear c36
                try clear c36b0
                try clear c36b1
                try clear c37
                try clear c37b0
                try clear c37b1
                try clear c37b2
                try clear c38
                try clear c38b0
                try clear c38b1
                try clear c38b2
                try clear c42
                try clear c42b0
                try clear c42b1
                try clear c43
                try clear c43b0
                try clear c43b1
                try clear c44
                try clear c44b0
                try clear c44b1
                try clear p2
                obtain ⟨kq, x130_40, rfl, HA, HJ40, HO_5, HB⟩ := hcut
                cases kq with
                | zero => exact absurd HA.out (by simp [fluxionlaw01_NatBits.j2])
                | succ kj40 =>
                  have H := HA.out
                  clear HA
                  simp only [fluxionlaw01_NatBits.j2] at H
                  by_cases c45 : x130_40 = true
                  · subst c45
                    have H1 : none = some r := by rw [if_pos rfl] at H; exact H
                    exact absurd H1 (by simp)
                  · replace c45 := Bool.eq_false_iff.mpr c45
                    subst c45
                    have H1 : (if 0 ≤ (wrap64 ((wrap64 (Int.tdiv t772 32)) + 1)) then (if (wrap64 ((wrap64 (Int.tdiv t772 32)) + 1) : Int).toNat ≤ 70368744177664 then ((some (List.replicate (wrap64 ((wrap64 (Int.tdiv t772 32)) + 1) : Int).toNat 0 : List Int)).bind fun y783 => (if 0 ≤ (wrap64 ((wrap64 (Int.tdiv (wrap64 (t772 - 1)) 32)) + 1)) then (if (wrap64 ((wrap64 (Int.tdiv (wrap64 (t772 - 1)) 32)) + 1) : Int).toNat ≤ 70368744177664 then ((some (List.replicate (wrap64 ((wrap64 (Int.tdiv (wrap64 (t772 - 1)) 32)) + 1) : Int).toNat 0 : List Int)).bind fun y786 => (if 0 ≤ (Int.tmod t772 32) then (if 0 ≤ (wrap64 (Int.tdiv t772 32)) then (if (wrap64 (Int.tdiv t772 32)) < (y783.length : Int) then (if 0 ≤ (Int.tmod (wrap64 (t772 - 1)) 32) then (if 0 ≤ (wrap64 (Int.tdiv (wrap64 (t772 - 1)) 32)) then (if (wrap64 (Int.tdiv (wrap64 (t772 - 1)) 32)) < (y786.length : Int) then ((nat_Compare.f kj40 t766 (y783.set ((wrap64 (Int.tdiv t772 32)) : Int).toNat (shl .u32 1 (Int.tmod t772 32)))).bind fun bt791 => ((nat_Compare.f kj40 (y786.set ((wrap64 (Int.tdiv (wrap64 (t772 - 1)) 32)) : Int).toNat (shl .u32 1 (Int.tmod (wrap64 (t772 - 1)) 32))) t766).bind fun bt793 => (if bt791.2 = 0 then (if bt793.2 = 0 then (if bt791.1 = (-1) then (if bt793.1 ≤ 0 then ((fluxionlaw01_alive.f).bind fun t795 => (some t795)) else none) else none) else none) else none))) else (none)) else (none)) else (none)) else (none)) else (none)) else (none))) else (none)) else (none))) else (none)) else (none)) = some r := by rw [if_neg (show ¬ (false = true) by decide)] at H; exact H
                    clear H
                    have H := H1
                    clear H1
                    obtain ⟨ji46, hji46⟩ : ∃ j_ : Int, (wrap64 ((wrap64 (Int.tdiv t772 32)) + 1)) = j_ := ⟨_, rfl⟩
                    replace H : (if 0 ≤ (ji46) then (if (ji46 : Int).toNat ≤ 70368744177664 then ((some (List.replicate (ji46 : Int).toNat 0 : List Int)).bind fun y783 => (if 0 ≤ (wrap64 ((wrap64 (Int.tdiv (wrap64 (t772 - 1)) 32)) + 1)) then (if (wrap64 ((wrap64 (Int.tdiv (wrap64 (t772 - 1)) 32)) + 1) : Int).toNat ≤ 70368744177664 then ((some (List.replicate (wrap64 ((wrap64 (Int.tdiv (wrap64 (t772 - 1)) 32)) + 1) : Int).toNat 0 : List Int)).bind fun y786 => (if 0 ≤ (Int.tmod t772 32) then (if 0 ≤ (wrap64 (Int.tdiv t772 32)) then (if (wrap64 (Int.tdiv t772 32)) < (y783.length : Int) then (if 0 ≤ (Int.tmod (wrap64 (t772 - 1)) 32) then (if 0 ≤ (wrap64 (Int.tdiv (wrap64 (t772 - 1)) 32)) then (if (wrap64 (Int.tdiv (wrap64 (t772 - 1)) 32)) < (y786.length : Int) then ((nat_Compare.f kj40 t766 (y783.set ((wrap64 (Int.tdiv t772 32)) : Int).toNat (shl .u32 1 (Int.tmod t772 32)))).bind fun bt791 => ((nat_Compare.f kj40 (y786.set ((wrap64 (Int.tdiv (wrap64 (t772 - 1)) 32)) : Int).toNat (shl .u32 1 (Int.tmod (wrap64 (t772 - 1)) 32))) t766).bind fun bt793 => (if bt791.2 = 0 then (if bt793.2 = 0 then (if bt791.1 = (-1) then (if bt793.1 ≤ 0 then ((fluxionlaw01_alive.f).bind fun t795 => (some t795)) else none) else none) else none) else none))) else (none)) else (none)) else (none)) else (none)) else (none)) else (none))) else (none)) else (none))) else (none)) else (none)) = some r := by first | (rw [hji46] at H; exact H) | (simp only [hji46] at H ⊢; exact H)
                    have hji46w : (IntKind.i64.wrap ((wrap64 (Int.tdiv t772 32)) + 1)) = ji46 := (i64_w _).trans hji46
                    by_cases c47 : 0 ≤ (ji46)
                    · rw [if_pos c47] at H
                      have c47b0 := eq_true c47
                      have c47b1 : decide (0 ≤ (ji46)) = true := decide_eq_true c47
                      clear c47
                      by_cases c48 : (ji46 : Int).toNat ≤ 70368744177664
                      · rw [if_pos c48] at H
                        have c48b0 := eq_true c48
                        have c48b1 : decide ((ji46 : Int).toNat ≤ 70368744177664) = true := decide_eq_true c48
                        clear c48
                        obtain ⟨y783, hy783⟩ : ∃ y_ : List Int, y_ = (List.replicate (ji46 : Int).toNat 0) := ⟨_, rfl⟩
                        replace H : (if 0 ≤ (wrap64 ((wrap64 (Int.tdiv (wrap64 (t772 - 1)) 32)) + 1)) then (if (wrap64 ((wrap64 (Int.tdiv (wrap64 (t772 - 1)) 32)) + 1) : Int).toNat ≤ 70368744177664 then ((some (List.replicate (wrap64 ((wrap64 (Int.tdiv (wrap64 (t772 - 1)) 32)) + 1) : Int).toNat 0 : List Int)).bind fun y786 => (if 0 ≤ (Int.tmod t772 32) then (if 0 ≤ (wrap64 (Int.tdiv t772 32)) then (if (wrap64 (Int.tdiv t772 32)) < (y783.length : Int) then (if 0 ≤ (Int.tmod (wrap64 (t772 - 1)) 32) then (if 0 ≤ (wrap64 (Int.tdiv (wrap64 (t772 - 1)) 32)) then (if (wrap64 (Int.tdiv (wrap64 (t772 - 1)) 32)) < (y786.length : Int) then ((nat_Compare.f kj40 t766 (y783.set ((wrap64 (Int.tdiv t772 32)) : Int).toNat (shl .u32 1 (Int.tmod t772 32)))).bind fun bt791 => ((nat_Compare.f kj40 (y786.set ((wrap64 (Int.tdiv (wrap64 (t772 - 1)) 32)) : Int).toNat (shl .u32 1 (Int.tmod (wrap64 (t772 - 1)) 32))) t766).bind fun bt793 => (if bt791.2 = 0 then (if bt793.2 = 0 then (if bt791.1 = (-1) then (if bt793.1 ≤ 0 then ((fluxionlaw01_alive.f).bind fun t795 => (some t795)) else none) else none) else none) else none))) else (none)) else (none)) else (none)) else (none)) else (none)) else (none))) else (none)) else (none)) = some r := by first | (rw [hy783]; with_reducible exact H) | (have H2_ := (Option.bind_some _ _).symm.trans H; rw [hy783]; with_reducible exact H2_) | (have H2_ := (Option.bind_some _ _).symm.trans H; with_reducible exact H2_) | with_reducible exact H | (rw [hy783]; exact H) | exact H
                        have Ny783 := Aside0.mk hy783
                        clear hy783
                        obtain ⟨ji49, hji49⟩ : ∃ j_ : Int, (wrap64 ((wrap64 (Int.tdiv (wrap64 (t772 - 1)) 32)) + 1)) = j_ := ⟨_, rfl⟩
                        replace H : (if 0 ≤ (ji49) then (if (ji49 : Int).toNat ≤ 70368744177664 then ((some (List.replicate (ji49 : Int).toNat 0 : List Int)).bind fun y786 => (if 0 ≤ (Int.tmod t772 32) then (if 0 ≤ (wrap64 (Int.tdiv t772 32)) then (if (wrap64 (Int.tdiv t772 32)) < (y783.length : Int) then (if 0 ≤ (Int.tmod (wrap64 (t772 - 1)) 32) then (if 0 ≤ (wrap64 (Int.tdiv (wrap64 (t772 - 1)) 32)) then (if (wrap64 (Int.tdiv (wrap64 (t772 - 1)) 32)) < (y786.length : Int) then ((nat_Compare.f kj40 t766 (y783.set ((wrap64 (Int.tdiv t772 32)) : Int).toNat (shl .u32 1 (Int.tmod t772 32)))).bind fun bt791 => ((nat_Compare.f kj40 (y786.set ((wrap64 (Int.tdiv (wrap64 (t772 - 1)) 32)) : Int).toNat (shl .u32 1 (Int.tmod (wrap64 (t772 - 1)) 32))) t766).bind fun bt793 => (if bt791.2 = 0 then (if bt793.2 = 0 then (if bt791.1 = (-1) then (if bt793.1 ≤ 0 then ((fluxionlaw01_alive.f).bind fun t795 => (some t795)) else none) else none) else none) else none))) else (none)) else (none)) else (none)) else (none)) else (none)) else (none))) else (none)) else (none)) = some r := by first | (rw [hji49] at H; exact H) | (simp only [hji49] at H ⊢; exact H)
                        have hji49w : (IntKind.i64.wrap ((wrap64 (Int.tdiv (wrap64 (t772 - 1)) 32)) + 1)) = ji49 := (i64_w _).trans hji49
                        (try (have hji49e := hji49; simp only [hji46] at hji49e))
                        (try (have hji49f := hji49w; simp only [hji46] at hji49f))
                        by_cases c50 : 0 ≤ (ji49)
                        · rw [if_pos c50] at H
                          have c50b0 := eq_true c50
                          have c50b1 : decide (0 ≤ (ji49)) = true := decide_eq_true c50
                          clear c50
                          by_cases c51 : (ji49 : Int).toNat ≤ 70368744177664
                          · rw [if_pos c51] at H
                            have c51b0 := eq_true c51
                            have c51b1 : decide ((ji49 : Int).toNat ≤ 70368744177664) = true := decide_eq_true c51
                            clear c51
                            obtain ⟨y786, hy786⟩ : ∃ y_ : List Int, y_ = (List.replicate (ji49 : Int).toNat 0) := ⟨_, rfl⟩
                            replace H : (if 0 ≤ (Int.tmod t772 32) then (if 0 ≤ (wrap64 (Int.tdiv t772 32)) then (if (wrap64 (Int.tdiv t772 32)) < (y783.length : Int) then (if 0 ≤ (Int.tmod (wrap64 (t772 - 1)) 32) then (if 0 ≤ (wrap64 (Int.tdiv (wrap64 (t772 - 1)) 32)) then (if (wrap64 (Int.tdiv (wrap64 (t772 - 1)) 32)) < (y786.length : Int) then ((nat_Compare.f kj40 t766 (y783.set ((wrap64 (Int.tdiv t772 32)) : Int).toNat (shl .u32 1 (Int.tmod t772 32)))).bind fun bt791 => ((nat_Compare.f kj40 (y786.set ((wrap64 (Int.tdiv (wrap64 (t772 - 1)) 32)) : Int).toNat (shl .u32 1 (Int.tmod (wrap64 (t772 - 1)) 32))) t766).bind fun bt793 => (if bt791.2 = 0 then (if bt793.2 = 0 then (if bt791.1 = (-1) then (if bt793.1 ≤ 0 then ((fluxionlaw01_alive.f).bind fun t795 => (some t795)) else none) else none) else none) else none))) else (none)) else (none)) else (none)) else (none)) else (none)) else (none)) = some r := by first | (rw [hy786]; with_reducible exact H) | (have H2_ := (Option.bind_some _ _).symm.trans H; rw [hy786]; with_reducible exact H2_) | (have H2_ := (Option.bind_some _ _).symm.trans H; with_reducible exact H2_) | with_reducible exact H | (rw [hy786]; exact H) | exact H
                            have Ny786 := Aside0.mk hy786
                            clear hy786
                            obtain ⟨ji52, hji52⟩ : ∃ j_ : Int, (Int.tmod t772 32) = j_ := ⟨_, rfl⟩
                            replace H : (if 0 ≤ (ji52) then (if 0 ≤ (wrap64 (Int.tdiv t772 32)) then (if (wrap64 (Int.tdiv t772 32)) < (y783.length : Int) then (if 0 ≤ (Int.tmod (wrap64 (t772 - 1)) 32) then (if 0 ≤ (wrap64 (Int.tdiv (wrap64 (t772 - 1)) 32)) then (if (wrap64 (Int.tdiv (wrap64 (t772 - 1)) 32)) < (y786.length : Int) then ((nat_Compare.f kj40 t766 (y783.set ((wrap64 (Int.tdiv t772 32)) : Int).toNat (shl .u32 1 (ji52)))).bind fun bt791 => ((nat_Compare.f kj40 (y786.set ((wrap64 (Int.tdiv (wrap64 (t772 - 1)) 32)) : Int).toNat (shl .u32 1 (Int.tmod (wrap64 (t772 - 1)) 32))) t766).bind fun bt793 => (if bt791.2 = 0 then (if bt793.2 = 0 then (if bt791.1 = (-1) then (if bt793.1 ≤ 0 then ((fluxionlaw01_alive.f).bind fun t795 => (some t795)) else none) else none) else none) else none))) else (none)) else (none)) else (none)) else (none)) else (none)) else (none)) = some r := by first | (rw [hji52] at H; exact H) | (simp only [hji52] at H ⊢; exact H)
                            by_cases c53 : 0 ≤ (ji52)
                            · rw [if_pos c53] at H
                              have c53b0 := eq_true c53
                              have c53b1 : decide (0 ≤ (ji52)) = true := decide_eq_true c53
                              clear c53
                              obtain ⟨ji54, hji54⟩ : ∃ j_ : Int, (shl .u32 1 (ji52)) = j_ := ⟨_, rfl⟩
                              replace H : (if 0 ≤ (wrap64 (Int.tdiv t772 32)) then (if (wrap64 (Int.tdiv t772 32)) < (y783.length : Int) then (if 0 ≤ (Int.tmod (wrap64 (t772 - 1)) 32) then (if 0 ≤ (wrap64 (Int.tdiv (wrap64 (t772 - 1)) 32)) then (if (wrap64 (Int.tdiv (wrap64 (t772 - 1)) 32)) < (y786.length : Int) then ((nat_Compare.f kj40 t766 (y783.set ((wrap64 (Int.tdiv t772 32)) : Int).toNat (ji54))).bind fun bt791 => ((nat_Compare.f kj40 (y786.set ((wrap64 (Int.tdiv (wrap64 (t772 - 1)) 32)) : Int).toNat (shl .u32 1 (Int.tmod (wrap64 (t772 - 1)) 32))) t766).bind fun bt793 => (if bt791.2 = 0 then (if bt793.2 = 0 then (if bt791.1 = (-1) then (if bt793.1 ≤ 0 then ((fluxionlaw01_alive.f).bind fun t795 => (some t795)) else none) else none) else none) else none))) else (none)) else (none)) else (none)) else (none)) else (none)) = some r := by first | (rw [hji54] at H; exact H) | (simp only [hji54] at H ⊢; exact H)
                              have hji54_ : (IntKind.u32.wrap (1 * 2 ^ min (ji52).toNat 32)) = ji54 := hji54
                              have hji54z : (ji52) ≤ 32 → (IntKind.u32.wrap (1 * 2 ^ (ji52).toNat)) = ji54 := shl_small hji54
                              have hji54u : (IntKind.u32.wrap (2 ^ min (ji52).toNat 32)) = ji54 := by have h_ := hji54_; rw [Int.one_mul] at h_; exact h_
                              have hji54v : (ji52) ≤ 32 → (IntKind.u32.wrap (2 ^ (ji52).toNat)) = ji54 := fun hle_ => by have h_ := hji54z hle_; rw [Int.one_mul] at h_; exact h_
                              obtain ⟨ji55, hji55⟩ : ∃ j_ : Int, (wrap64 (Int.tdiv t772 32)) = j_ := ⟨_, rfl⟩
                              replace H : (if 0 ≤ (ji55) then (if (ji55) < (y783.length : Int) then (if 0 ≤ (Int.tmod (wrap64 (t772 - 1)) 32) then (if 0 ≤ (wrap64 (Int.tdiv (wrap64 (t772 - 1)) 32)) then (if (wrap64 (Int.tdiv (wrap64 (t772 - 1)) 32)) < (y786.length : Int) then ((nat_Compare.f kj40 t766 (y783.set ((ji55) : Int).toNat (ji54))).bind fun bt791 => ((nat_Compare.f kj40 (y786.set ((wrap64 (Int.tdiv (wrap64 (t772 - 1)) 32)) : Int).toNat (shl .u32 1 (Int.tmod (wrap64 (t772 - 1)) 32))) t766).bind fun bt793 => (if bt791.2 = 0 then (if bt793.2 = 0 then (if bt791.1 = (-1) then (if bt793.1 ≤ 0 then ((fluxionlaw01_alive.f).bind fun t795 => (some t795)) else none) else none) else none) else none))) else (none)) else (none)) else (none)) else (none)) else (none)) = some r := by first | (rw [hji55] at H; exact H) | (simp only [hji55] at H ⊢; exact H)
                              have hji55w : (IntKind.i64.wrap (Int.tdiv t772 32)) = ji55 := (i64_w _).trans hji55
                              (try (have hji46p := hji46; simp only [hji55] at hji46p))
                              (try (have hji46q := hji46w; simp only [hji55] at hji46q))
                              (try (have hji55e := hji55; simp only [hji46, hji49, hji52, hji54] at hji55e))
                              (try (have hji55f := hji55w; simp only [hji46, hji49, hji52, hji54] at hji55f))
                              by_cases c56 : 0 ≤ (ji55)
                              · rw [if_pos c56] at H
                                have c56b0 : decide (0 ≤ (ji55)) = true := decide_eq_true c56
                                clear c56
                                by_cases c57 : (ji55) < (y783.length : Int)
                                · rw [if_pos c57] at H
                                  have c57b0 : decide ((ji55) < (y783.length : Int)) = true := decide_eq_true c57
                                  clear c57
                                  obtain ⟨y789, hy789⟩ : ∃ y_ : List Int, y_ = (y783.set ((ji55) : Int).toNat (ji54)) := ⟨_, rfl⟩
                                  replace H : (if 0 ≤ (Int.tmod (wrap64 (t772 - 1)) 32) then (if 0 ≤ (wrap64 (Int.tdiv (wrap64 (t772 - 1)) 32)) then (if (wrap64 (Int.tdiv (wrap64 (t772 - 1)) 32)) < (y786.length : Int) then ((nat_Compare.f kj40 t766 y789).bind fun bt791 => ((nat_Compare.f kj40 (y786.set ((wrap64 (Int.tdiv (wrap64 (t772 - 1)) 32)) : Int).toNat (shl .u32 1 (Int.tmod (wrap64 (t772 - 1)) 32))) t766).bind fun bt793 => (if bt791.2 = 0 then (if bt793.2 = 0 then (if bt791.1 = (-1) then (if bt793.1 ≤ 0 then ((fluxionlaw01_alive.f).bind fun t795 => (some t795)) else none) else none) else none) else none))) else (none)) else (none)) else (none)) = some r := by first | (rw [hy789]; with_reducible exact H) | (have H2_ := (Option.bind_some _ _).symm.trans H; rw [hy789]; with_reducible exact H2_) | (have H2_ := (Option.bind_some _ _).symm.trans H; with_reducible exact H2_) | with_reducible exact H | (rw [hy789]; exact H) | exact H
                                  have Ny789 := Aside0.mk hy789
                                  clear hy789
                                  obtain ⟨ji59, hji59⟩ : ∃ j_ : Int, (Int.tmod (wrap64 (t772 - 1)) 32) = j_ := ⟨_, rfl⟩
                                  replace H : (if 0 ≤ (ji59) then (if 0 ≤ (wrap64 (Int.tdiv (wrap64 (t772 - 1)) 32)) then (if (wrap64 (Int.tdiv (wrap64 (t772 - 1)) 32)) < (y786.length : Int) then ((nat_Compare.f kj40 t766 y789).bind fun bt791 => ((nat_Compare.f kj40 (y786.set ((wrap64 (Int.tdiv (wrap64 (t772 - 1)) 32)) : Int).toNat (shl .u32 1 (ji59))) t766).bind fun bt793 => (if bt791.2 = 0 then (if bt793.2 = 0 then (if bt791.1 = (-1) then (if bt793.1 ≤ 0 then ((fluxionlaw01_alive.f).bind fun t795 => (some t795)) else none) else none) else none) else none))) else (none)) else (none)) else (none)) = some r := by first | (rw [hji59] at H; exact H) | (simp only [hji59] at H ⊢; exact H)
                                  by_cases c60 : 0 ≤ (ji59)
                                  · rw [if_pos c60] at H
                                    have c60b0 := eq_true c60
                                    have c60b1 : decide (0 ≤ (ji59)) = true := decide_eq_true c60
                                    clear c60
                                    obtain ⟨ji61, hji61⟩ : ∃ j_ : Int, (shl .u32 1 (ji59)) = j_ := ⟨_, rfl⟩
                                    replace H : (if 0 ≤ (wrap64 (Int.tdiv (wrap64 (t772 - 1)) 32)) then (if (wrap64 (Int.tdiv (wrap64 (t772 - 1)) 32)) < (y786.length : Int) then ((nat_Compare.f kj40 t766 y789).bind fun bt791 => ((nat_Compare.f kj40 (y786.set ((wrap64 (Int.tdiv (wrap64 (t772 - 1)) 32)) : Int).toNat (ji61)) t766).bind fun bt793 => (if bt791.2 = 0 then (if bt793.2 = 0 then (if bt791.1 = (-1) then (if bt793.1 ≤ 0 then ((fluxionlaw01_alive.f).bind fun t795 => (some t795)) else none) else none) else none) else none))) else (none)) else (none)) = some r := by first | (rw [hji61] at H; exact H) | (simp only [hji61] at H ⊢; exact H)
                                    have hji61_ : (IntKind.u32.wrap (1 * 2 ^ min (ji59).toNat 32)) = ji61 := hji61
                                    have hji61z : (ji59) ≤ 32 → (IntKind.u32.wrap (1 * 2 ^ (ji59).toNat)) = ji61 := shl_small hji61
                                    have hji61u : (IntKind.u32.wrap (2 ^ min (ji59).toNat 32)) = ji61 := by have h_ := hji61_; rw [Int.one_mul] at h_; exact h_
                                    have hji61v : (ji59) ≤ 32 → (IntKind.u32.wrap (2 ^ (ji59).toNat)) = ji61 := fun hle_ => by have h_ := hji61z hle_; rw [Int.one_mul] at h_; exact h_
                                    obtain ⟨ji62, hji62⟩ : ∃ j_ : Int, (wrap64 (Int.tdiv (wrap64 (t772 - 1)) 32)) = j_ := ⟨_, rfl⟩
                                    replace H : (if 0 ≤ (ji62) then (if (ji62) < (y786.length : Int) then ((nat_Compare.f kj40 t766 y789).bind fun bt791 => ((nat_Compare.f kj40 (y786.set ((ji62) : Int).toNat (ji61)) t766).bind fun bt793 => (if bt791.2 = 0 then (if bt793.2 = 0 then (if bt791.1 = (-1) then (if bt793.1 ≤ 0 then ((fluxionlaw01_alive.f).bind fun t795 => (some t795)) else none) else none) else none) else none))) else (none)) else (none)) = some r := by first | (rw [hji62] at H; exact H) | (simp only [hji62] at H ⊢; exact H)
                                    have hji62w : (IntKind.i64.wrap (Int.tdiv (wrap64 (t772 - 1)) 32)) = ji62 := (i64_w _).trans hji62
                                    (try (have hji49p := hji49; simp only [hji62] at hji49p))
                                    (try (have hji49q := hji49w; simp only [hji62] at hji49q))
                                    (try (have hji62e := hji62; simp only [hji46, hji49, hji52, hji54, hji55, hji59, hji61] at hji62e))
                                    (try (have hji62f := hji62w; simp only [hji46, hji49, hji52, hji54, hji55, hji59, hji61] at hji62f))
                                    by_cases c63 : 0 ≤ (ji62)
                                    · rw [if_pos c63] at H
                                      have c63b0 : decide (0 ≤ (ji62)) = true := decide_eq_true c63
                                      clear c63
                                      by_cases c64 : (ji62) < (y786.length : Int)
                                      · rw [if_pos c64] at H
                                        have c64b0 : decide ((ji62) < (y786.length : Int)) = true := decide_eq_true c64
                                        clear c64
                                        obtain ⟨y790, hy790⟩ : ∃ y_ : List Int, y_ = (y786.set ((ji62) : Int).toNat (ji61)) := ⟨_, rfl⟩
                                        replace H : ((nat_Compare.f kj40 t766 y789).bind fun bt791 => ((nat_Compare.f kj40 y790 t766).bind fun bt793 => (if bt791.2 = 0 then (if bt793.2 = 0 then (if bt791.1 = (-1) then (if bt793.1 ≤ 0 then ((fluxionlaw01_alive.f).bind fun t795 => (some t795)) else none) else none) else none) else none))) = some r := by first | (rw [hy790]; with_reducible exact H) | (have H2_ := (Option.bind_some _ _).symm.trans H; rw [hy790]; with_reducible exact H2_) | (have H2_ := (Option.bind_some _ _).symm.trans H; with_reducible exact H2_) | with_reducible exact H | (rw [hy790]; exact H) | exact H
                                        have Ny790 := Aside0.mk hy790
                                        clear hy790
                                        replace H := Option.bind_eq_some_iff.mp H
                                        obtain ⟨⟨t791, t792⟩, A660, H⟩ := H
                                        replace H : ((nat_Compare.f kj40 y790 t766).bind fun bt793 => (if t792 = 0 then (if bt793.2 = 0 then (if t791 = (-1) then (if bt793.1 ≤ 0 then ((fluxionlaw01_alive.f).bind fun t795 => (some t795)) else none) else none) else none) else none)) = some r := H
                                        have A66 := Aside0.mk A660
                                        clear A660
                                        replace H := Option.bind_eq_some_iff.mp H
                                        obtain ⟨⟨t793, t794⟩, A670, H⟩ := H
                                        replace H : (if t792 = 0 then (if t794 = 0 then (if t791 = (-1) then (if t793 ≤ 0 then ((fluxionlaw01_alive.f).bind fun t795 => (some t795)) else none) else none) else none) else none) = some r := H
                                        have A67 := Aside0.mk A670
                                        clear A670
                                        by_cases c68 : t792 = 0
                                        · rw [if_pos c68] at H
                                          have c68b0 : (t792 == 0) = true := beq_iff_eq.mpr c68
                                          have c68b1 : (t792 != 0) = false := bne_eq_false_iff_eq.mpr c68
                                          clear c68
                                          by_cases c69 : t794 = 0
                                          · rw [if_pos c69] at H
                                            have c69b0 : (t794 == 0) = true := beq_iff_eq.mpr c69
                                            have c69b1 : (t794 != 0) = false := bne_eq_false_iff_eq.mpr c69
                                            clear c69
                                            by_cases c70 : t791 = (-1)
                                            · rw [if_pos c70] at H
                                              have c70b0 : (t791 == (-1)) = true := beq_iff_eq.mpr c70
                                              have c70b1 : (t791 != (-1)) = false := bne_eq_false_iff_eq.mpr c70
                                              clear c70
                                              by_cases c71 : t793 ≤ 0
                                              · rw [if_pos c71] at H
                                                have c71b0 : decide (t793 ≤ 0) = true := decide_eq_true c71
                                                clear c71
                                                replace H := Option.bind_eq_some_iff.mp H
                                                obtain ⟨t795, A720, H⟩ := H
                                                replace H : (some t795) = some r := H
                                                have A72 := Aside0.mk A720
                                                clear A720
                                                obtain rfl := Option.some.inj H
                                                try go_wp2
                                                have n0_ := Aside0.mk (Kd.R_drew HO_5.out)
                                                have n1_ := Aside0.mk (below_drew1 HB.out)
                                                clear HO_5
                                                clear HB
                                                have HO_5 := n0_
                                                have HB := n1_
                                                clear n0_ n1_
                                                refine start_ (n := 11) (S := fun w' => True) (ds := []) #[false, false, false, false, false, false, false, false, false, false, false] (by kernel_rfl) rfl rfl trivial (fun hHeld => ?_); refine with_tabW fluxionlaw01_NatBits.tab12 fluxionlaw01_NatBits.bits12 (fun HT_ HW_ => ?_)
                                                generalize wc.drew = w73 at HO_5 HB hHeld ⊢
                                                refine pure_ (i := 0) (N := some 131) (v := ?_) (a' := ?_) #[true, false, false, false, false, false, false, false, false, false, false] rfl rfl (any_of HT_.out (by kernel_rfl)) (fun _ _ _ h => h) (Or.inl ⟨by rfl, ?_⟩) ?_ ?_
                                                rotate_left
                                                · intro w'
                                                  go_simp
                                                  with_reducible rfl
                                                rotate_left
                                                · simp only [Act.put, List.setIfInBounds_toArray, List.set_cons_zero, List.set_cons_succ, i64_w, i32_w]
                                                  rfl
                                                refine pure_ (i := 1) (N := some 132) (v := ?_) (a' := ?_) #[true, true, false, false, false, false, false, false, false, false, false] rfl rfl (any_of HT_.out (by kernel_rfl)) (fun _ _ _ h => h) (Or.inl ⟨by rfl, ?_⟩) ?_ ?_
                                                rotate_left
                                                · intro w'
                                                  go_simp
                                                  with_reducible rfl
                                                rotate_left
                                                · simp only [Act.put, List.setIfInBounds_toArray, List.set_cons_zero, List.set_cons_succ, i64_w, i32_w]
                                                  rfl
                                                refine pure_ (i := 2) (N := some 133) (v := ?_) (a' := ?_) #[true, true, true, false, false, false, false, false, false, false, false] rfl rfl (any_of HT_.out (by kernel_rfl)) (fun _ _ _ h => h) (Or.inl ⟨by rfl, ?_⟩) ?_ ?_
                                                rotate_left
                                                · intro w'
                                                  go_simp
                                                  with_reducible rfl
                                                rotate_left
                                                · simp only [Act.put, List.setIfInBounds_toArray, List.set_cons_zero, List.set_cons_succ, i64_w, i32_w]
                                                  rfl
                                                refine pure_ (i := 4) (N := some 135) (v := ?_) (a' := ?_) #[true, true, true, false, true, false, false, false, false, false, false] rfl rfl (any_of HT_.out (by kernel_rfl)) (fun _ _ _ h => h) (Or.inl ⟨by rfl, ?_⟩) ?_ ?_
                                                rotate_left
                                                · intro w'
                                                  go_simp
                                                  with_reducible rfl
                                                rotate_left
                                                · simp only [Act.put, List.setIfInBounds_toArray, List.set_cons_zero, List.set_cons_succ, i64_w, i32_w]
                                                  rfl
                                                refine pure_ (i := 5) (N := some 136) (v := ?_) (a' := ?_) #[true, true, true, false, true, true, false, false, false, false, false] rfl rfl (any_of HT_.out (by kernel_rfl)) (fun _ _ _ h => h) (Or.inl ⟨by rfl, ?_⟩) ?_ ?_
                                                rotate_left
                                                · intro w'
                                                  go_simp
                                                  with_reducible rfl
                                                rotate_left
                                                · simp only [Act.put, List.setIfInBounds_toArray, List.set_cons_zero, List.set_cons_succ, i64_w, i32_w]
                                                  rfl
                                                refine pure_ (i := 6) (N := some 137) (v := ?_) (a' := ?_) #[true, true, true, false, true, true, true, false, false, false, false] rfl rfl (any_of HT_.out (by kernel_rfl)) (fun _ _ _ h => h) (Or.inl ⟨by rfl, ?_⟩) ?_ ?_
                                                rotate_left
                                                · intro w'
                                                  go_simp
                                                  with_reducible rfl
                                                rotate_left
                                                · simp only [Act.put, List.setIfInBounds_toArray, List.set_cons_zero, List.set_cons_succ, i64_w, i32_w]
                                                  rfl
                                                refine pure_ (i := 7) (N := some 138) (v := ?_) (a' := ?_) #[true, true, true, false, true, true, true, true, false, false, false] rfl rfl (any_of HT_.out (by kernel_rfl)) (fun _ _ _ h => h) (Or.inl ⟨by rfl, ?_⟩) ?_ ?_
                                                rotate_left
                                                · intro w'
                                                  go_simp
                                                  with_reducible rfl
                                                rotate_left
                                                · simp only [Act.put, List.setIfInBounds_toArray, List.set_cons_zero, List.set_cons_succ, i64_w, i32_w]
                                                  rfl
                                                refine join_ (σ := Value × Value) 1 #[true, true, true, true, true, true, true, true, true, true, false] (fun s_ => [(134, s_.1), (139, s_.2), (15, s_.1)]) (fun s_ w' => (Kd.R (Kd.int .u32) 47 w' w.heap.size (fun k_ => some k_ ≠ (s_.2 : Value).ownBlock ∧ some k_ ≠ (.slice Ao11 t766.length co11 : Value).ownBlock) s_.1 y783) ∧ (Kd.R (Kd.int .u32) 47 w' w.heap.size (fun k_ => some k_ ≠ (s_.1 : Value).ownBlock ∧ some k_ ≠ (.slice Ao11 t766.length co11 : Value).ownBlock) s_.2 y786) ∧ (Kd.R (Kd.int .u32) 47 w' w.heap.size (fun k_ => some k_ ≠ (s_.1 : Value).ownBlock ∧ some k_ ≠ (s_.2 : Value).ownBlock) (.slice Ao11 t766.length co11) t766) ∧ (Below w.heap.size w w')) ?_ ?_
                                                rotate_left
                                                · intro hCont
                                                  refine two_ (i := 3) (j := 8) (Ni := some 134) (Nj := some 139) #[true, true, true, true, true, true, true, true, false, false, false] #[true, true, true, false, true, true, true, true, true, false, false] rfl rfl rfl rfl (two_of HT_.out (by kernel_rfl)) (by decide) (by decide) (fun K hK => ?_) (fun K hK => ?_)
                                                  · skip
                                                    refine Kd.R_make_step (Kd.int .u32) _ 47 (by rfl) (N := 134) rfl 22 _ _ rfl ji46 rfl rfl Try.underlying22 (.int .u32 0) 4 info47 rfl (by decide) (by omega) 0 (ok := fun _ => True) (okp := fun _ => True) rfl (fun _ hk => hk) trivial (of_decide_eq_true (by first | (with_reducible assumption) | assumption)) (Nat.le_trans (Nat.mul_le_mul_right _ (of_decide_eq_true (by first | (with_reducible assumption) | assumption) : ji46.toNat ≤ 70368744177664)) (by omega)) (Below.refl _ _) (Nat.le_refl _) ?_
                                                    intro v784 w74 ho75 hb hg_ hnew_
                                                    clear hg_ hnew_
                                                    (first | rw [← Ny783.out] at ho75 | (simp only [Int.reduceToNat] at ho75; rw [← Ny783.out] at ho75))
                                                    have n0_ := Aside0.mk (Kd.R_elder' (by (with_reducible repeat (first | apply Kd.R_alloc | apply Kd.R_drewN | apply Kd.R_drew)); exact HO_5.out) (Kd.R_base ho75) hb)
                                                    have n1_ := Aside0.mk (Kd.R_lower (Kd.R_new' ho75 (Kd.R_lt (by (with_reducible repeat (first | apply Kd.R_alloc | apply Kd.R_drewN | apply Kd.R_drew)); exact HO_5.out))) (below_size (by repeat (first | (with_reducible first | exact HB.out | apply below_alloc | apply pw_below_drewN | apply below_drew1) | exact HB.out))))
                                                    have n2_ := Aside0.mk (below_step (by repeat (first | (with_reducible first | exact HB.out | apply below_alloc | apply pw_below_drewN | apply below_drew1) | exact HB.out)) hb)
                                                    clear HO_5
                                                    clear HB
                                                    have HO_5 := n0_
                                                    have HO785 := n1_
                                                    have HB := n2_
                                                    clear n0_ n1_ n2_
                                                    clear hb ho75
                                                    refine hK.out _ _ trivial (fun hHeld => ?_)
                                                    clear hK K
                                                    refine norm_ (a' := ?_) ?_ ?_
                                                    rotate_left
                                                    · show Act.put _ (some 134) _ = _
                                                      simp only [Act.put, List.setIfInBounds_toArray, List.set_cons_zero, List.set_cons_succ, i64_w, i32_w]
                                                      rfl
                                                    refine pure_ (i := 9) (N := some 15) (v := ?_) (a' := ?_) #[true, true, true, true, true, true, true, true, false, true, false] rfl rfl (any_of HT_.out (by kernel_rfl)) (fun _ _ _ h => h) (Or.inl ⟨by rfl, ?_⟩) ?_ ?_
                                                    rotate_left
                                                    · intro w'
                                                      go_simp
                                                      with_reducible rfl
                                                    rotate_left
                                                    · simp only [Act.put, List.setIfInBounds_toArray, List.set_cons_zero, List.set_cons_succ, i64_w, i32_w]
                                                      rfl
                                                    refine one_ (i := 8) (N := some 139) #[true, true, true, true, true, true, true, true, true, true, false] rfl rfl (one_of HT_.out (by kernel_rfl)) (by decide) (fun K hK => ?_)
                                                    refine Kd.R_make_step (Kd.int .u32) _ 47 (by rfl) (N := 139) rfl 22 _ _ rfl ji49 rfl rfl Try.underlying22 (.int .u32 0) 4 info47 rfl (by decide) (by omega) 0 (ok := fun _ => True) (okp := fun _ => True) rfl (fun _ hk => hk) trivial (of_decide_eq_true (by first | (with_reducible assumption) | assumption)) (Nat.le_trans (Nat.mul_le_mul_right _ (of_decide_eq_true (by first | (with_reducible assumption) | assumption) : ji49.toNat ≤ 70368744177664)) (by omega)) (Below.refl _ _) (Nat.le_refl _) ?_
                                                    intro v787 w76 ho77 hb hg_ hnew_
                                                    clear hg_ hnew_
                                                    (first | rw [← Ny786.out] at ho77 | (simp only [Int.reduceToNat] at ho77; rw [← Ny786.out] at ho77))
                                                    have n0_ := Aside0.mk (Kd.R_elder' (by (with_reducible repeat (first | apply Kd.R_alloc | apply Kd.R_drewN | apply Kd.R_drew)); exact HO_5.out) (Kd.R_base ho77) hb)
                                                    have n1_ := Aside0.mk (Kd.R_elder' (by (with_reducible repeat (first | apply Kd.R_alloc | apply Kd.R_drewN | apply Kd.R_drew)); exact HO785.out) (Kd.R_base ho77) hb)
                                                    have n2_ := Aside0.mk (Kd.R_lower (Kd.R_new' (Kd.R_new' ho77 (Kd.R_lt (by (with_reducible repeat (first | apply Kd.R_alloc | apply Kd.R_drewN | apply Kd.R_drew)); exact HO_5.out))) (Kd.R_lt (by (with_reducible repeat (first | apply Kd.R_alloc | apply Kd.R_drewN | apply Kd.R_drew)); exact HO785.out))) (below_size (by repeat (first | (with_reducible first | exact HB.out | apply below_alloc | apply pw_below_drewN | apply below_drew1) | exact HB.out))))
                                                    have n3_ := Aside0.mk (below_step (by repeat (first | (with_reducible first | exact HB.out | apply below_alloc | apply pw_below_drewN | apply below_drew1) | exact HB.out)) hb)
                                                    clear HO_5
                                                    clear HO785
                                                    clear HB
                                                    have HO_5 := n0_
                                                    have HO785 := n1_
                                                    have HO788 := n2_
                                                    have HB := n3_
                                                    clear n0_ n1_ n2_ n3_
                                                    clear hb ho77
                                                    refine hK.out _ _ trivial (fun hHeld => ?_)
                                                    clear hK K
                                                    refine norm_ (a' := ?_) ?_ ?_
                                                    rotate_left
                                                    · show Act.put _ (some 139) _ = _
                                                      simp only [Act.put, List.setIfInBounds_toArray, List.set_cons_zero, List.set_cons_succ, i64_w, i32_w]
                                                      rfl
                                                    exact norm_ (by simp only [putAll, Act.put, List.setIfInBounds_toArray, List.set_cons_zero, List.set_cons_succ]) (hCont (v784, v787) _ ⟨(by (with_reducible repeat (first | apply Kd.R_alloc | apply Kd.R_drewN | apply Kd.R_drew)); exact Kd.R_mono HO785.out (fun _ hk => ⟨hk.2, hk.1.2⟩)), (by (with_reducible repeat (first | apply Kd.R_alloc | apply Kd.R_drewN | apply Kd.R_drew)); exact Kd.R_mono HO788.out (fun _ hk => ⟨hk.2, hk.1.2⟩)), (by (with_reducible repeat (first | apply Kd.R_alloc | apply Kd.R_drewN | apply Kd.R_drew)); exact Kd.R_mono HO_5.out (fun _ hk => ⟨hk.1.2, hk.2⟩)), (by repeat (first | (with_reducible first | exact HB.out | apply below_alloc | apply pw_below_drewN | apply below_drew1) | exact HB.out))⟩)
                                                  · skip
                                                    refine Kd.R_make_step (Kd.int .u32) _ 47 (by rfl) (N := 139) rfl 22 _ _ rfl ji49 rfl rfl Try.underlying22 (.int .u32 0) 4 info47 rfl (by decide) (by omega) 0 (ok := fun _ => True) (okp := fun _ => True) rfl (fun _ hk => hk) trivial (of_decide_eq_true (by first | (with_reducible assumption) | assumption)) (Nat.le_trans (Nat.mul_le_mul_right _ (of_decide_eq_true (by first | (with_reducible assumption) | assumption) : ji49.toNat ≤ 70368744177664)) (by omega)) (Below.refl _ _) (Nat.le_refl _) ?_
                                                    intro v787 w74 ho75 hb hg_ hnew_
                                                    clear hg_ hnew_
                                                    (first | rw [← Ny786.out] at ho75 | (simp only [Int.reduceToNat] at ho75; rw [← Ny786.out] at ho75))
                                                    have n0_ := Aside0.mk (Kd.R_elder' (by (with_reducible repeat (first | apply Kd.R_alloc | apply Kd.R_drewN | apply Kd.R_drew)); exact HO_5.out) (Kd.R_base ho75) hb)
                                                    have n1_ := Aside0.mk (Kd.R_lower (Kd.R_new' ho75 (Kd.R_lt (by (with_reducible repeat (first | apply Kd.R_alloc | apply Kd.R_drewN | apply Kd.R_drew)); exact HO_5.out))) (below_size (by repeat (first | (with_reducible first | exact HB.out | apply below_alloc | apply pw_below_drewN | apply below_drew1) | exact HB.out))))
                                                    have n2_ := Aside0.mk (below_step (by repeat (first | (with_reducible first | exact HB.out | apply below_alloc | apply pw_below_drewN | apply below_drew1) | exact HB.out)) hb)
                                                    clear HO_5
                                                    clear HB
                                                    have HO_5 := n0_
                                                    have HO788 := n1_
                                                    have HB := n2_
                                                    clear n0_ n1_ n2_
                                                    clear hb ho75
                                                    refine hK.out _ _ trivial (fun hHeld => ?_)
                                                    clear hK K
                                                    refine norm_ (a' := ?_) ?_ ?_
                                                    rotate_left
                                                    · show Act.put _ (some 139) _ = _
                                                      simp only [Act.put, List.setIfInBounds_toArray, List.set_cons_zero, List.set_cons_succ, i64_w, i32_w]
                                                      rfl
                                                    refine one_ (i := 3) (N := some 134) #[true, true, true, true, true, true, true, true, true, false, false] rfl rfl (one_of HT_.out (by kernel_rfl)) (by decide) (fun K hK => ?_)
                                                    refine Kd.R_make_step (Kd.int .u32) _ 47 (by rfl) (N := 134) rfl 22 _ _ rfl ji46 rfl rfl Try.underlying22 (.int .u32 0) 4 info47 rfl (by decide) (by omega) 0 (ok := fun _ => True) (okp := fun _ => True) rfl (fun _ hk => hk) trivial (of_decide_eq_true (by first | (with_reducible assumption) | assumption)) (Nat.le_trans (Nat.mul_le_mul_right _ (of_decide_eq_true (by first | (with_reducible assumption) | assumption) : ji46.toNat ≤ 70368744177664)) (by omega)) (Below.refl _ _) (Nat.le_refl _) ?_
                                                    intro v784 w76 ho77 hb hg_ hnew_
                                                    clear hg_ hnew_
                                                    (first | rw [← Ny783.out] at ho77 | (simp only [Int.reduceToNat] at ho77; rw [← Ny783.out] at ho77))
                                                    have n0_ := Aside0.mk (Kd.R_elder' (by (with_reducible repeat (first | apply Kd.R_alloc | apply Kd.R_drewN | apply Kd.R_drew)); exact HO_5.out) (Kd.R_base ho77) hb)
                                                    have n1_ := Aside0.mk (Kd.R_elder' (by (with_reducible repeat (first | apply Kd.R_alloc | apply Kd.R_drewN | apply Kd.R_drew)); exact HO788.out) (Kd.R_base ho77) hb)
                                                    have n2_ := Aside0.mk (Kd.R_lower (Kd.R_new' (Kd.R_new' ho77 (Kd.R_lt (by (with_reducible repeat (first | apply Kd.R_alloc | apply Kd.R_drewN | apply Kd.R_drew)); exact HO_5.out))) (Kd.R_lt (by (with_reducible repeat (first | apply Kd.R_alloc | apply Kd.R_drewN | apply Kd.R_drew)); exact HO788.out))) (below_size (by repeat (first | (with_reducible first | exact HB.out | apply below_alloc | apply pw_below_drewN | apply below_drew1) | exact HB.out))))
                                                    have n3_ := Aside0.mk (below_step (by repeat (first | (with_reducible first | exact HB.out | apply below_alloc | apply pw_below_drewN | apply below_drew1) | exact HB.out)) hb)
                                                    clear HO_5
                                                    clear HO788
                                                    clear HB
                                                    have HO_5 := n0_
                                                    have HO788 := n1_
                                                    have HO785 := n2_
                                                    have HB := n3_
                                                    clear n0_ n1_ n2_ n3_
                                                    clear hb ho77
                                                    refine hK.out _ _ trivial (fun hHeld => ?_)
                                                    clear hK K
                                                    refine norm_ (a' := ?_) ?_ ?_
                                                    rotate_left
                                                    · show Act.put _ (some 134) _ = _
                                                      simp only [Act.put, List.setIfInBounds_toArray, List.set_cons_zero, List.set_cons_succ, i64_w, i32_w]
                                                      rfl
                                                    refine pure_ (i := 9) (N := some 15) (v := ?_) (a' := ?_) #[true, true, true, true, true, true, true, true, true, true, false] rfl rfl (any_of HT_.out (by kernel_rfl)) (fun _ _ _ h => h) (Or.inl ⟨by rfl, ?_⟩) ?_ ?_
                                                    rotate_left
                                                    · intro w'
                                                      go_simp
                                                      with_reducible rfl
                                                    rotate_left
                                                    · simp only [Act.put, List.setIfInBounds_toArray, List.set_cons_zero, List.set_cons_succ, i64_w, i32_w]
                                                      rfl
                                                    exact norm_ (by simp only [putAll, Act.put, List.setIfInBounds_toArray, List.set_cons_zero, List.set_cons_succ]) (hCont (v784, v787) _ ⟨(by (with_reducible repeat (first | apply Kd.R_alloc | apply Kd.R_drewN | apply Kd.R_drew)); exact Kd.R_mono HO785.out (fun _ hk => ⟨hk.2, hk.1.2⟩)), (by (with_reducible repeat (first | apply Kd.R_alloc | apply Kd.R_drewN | apply Kd.R_drew)); exact Kd.R_mono HO788.out (fun _ hk => ⟨hk.2, hk.1.2⟩)), (by (with_reducible repeat (first | apply Kd.R_alloc | apply Kd.R_drewN | apply Kd.R_drew)); exact Kd.R_mono HO_5.out (fun _ hk => ⟨hk.2, hk.1.2⟩)), (by repeat (first | (with_reducible first | exact HB.out | apply below_alloc | apply pw_below_drewN | apply below_drew1) | exact HB.out))⟩)
                                                rintro ⟨v784, v787⟩ w78 ⟨h0_, h1_, h2_, h3_⟩
                                                have n0_ : Aside0 (Kd.R (Kd.int .u32) 47 w78 w.heap.size (fun k_ => some k_ ≠ (v787 : Value).ownBlock ∧ some k_ ≠ (.slice Ao11 t766.length co11 : Value).ownBlock) v784 y783) := ⟨h0_⟩
                                                have n1_ : Aside0 (Kd.R (Kd.int .u32) 47 w78 w.heap.size (fun k_ => some k_ ≠ (v784 : Value).ownBlock ∧ some k_ ≠ (.slice Ao11 t766.length co11 : Value).ownBlock) v787 y786) := ⟨h1_⟩
                                                have n2_ : Aside0 (Kd.R (Kd.int .u32) 47 w78 w.heap.size (fun k_ => some k_ ≠ (v784 : Value).ownBlock ∧ some k_ ≠ (v787 : Value).ownBlock) (.slice Ao11 t766.length co11) t766) := ⟨h2_⟩
                                                have n3_ : Aside0 (Below w.heap.size w w78) := ⟨h3_⟩
                                                clear HO_5
                                                clear HB
                                                clear h0_ h1_ h2_ h3_
                                                have HO785 := n0_
                                                have HO788 := n1_
                                                have HO_5 := n2_
                                                have HB := n3_
                                                clear n0_ n1_ n2_ n3_
                                                have hHeld := trivial
                                                refine norm_ (a' := ?_) ?_ ?_
                                                rotate_left
                                                · simp only [putAll, Act.put, List.setIfInBounds_toArray, List.set_cons_zero, List.set_cons_succ]
                                                  rfl
                                                refine pure_ (i := 10) (N := some 16) (v := ?_) (a' := ?_) #[true, true, true, true, true, true, true, true, true, true, true] rfl rfl (any_of HT_.out (by kernel_rfl)) (fun _ _ _ h => h) (Or.inl ⟨by rfl, ?_⟩) ?_ ?_
                                                rotate_left
                                                · intro w'
                                                  go_simp
                                                  with_reducible rfl
                                                rotate_left
                                                · simp only [Act.put, List.setIfInBounds_toArray, List.set_cons_zero, List.set_cons_succ, i64_w, i32_w]
                                                  rfl
                                                refine done_ (done_of HT_.out (by kernel_rfl)) ?_
                                                have p58 : 0 ≤ ((ji55) : Int) := of_decide_eq_true (by first | (with_reducible assumption) | assumption)
                                                have q58 : ((ji55) : Int) < ((y783.length : Int) : Int) := of_decide_eq_true (by first | (with_reducible assumption) | assumption)
                                                obtain ⟨go58, co58, eo58, gb58, gl58, cl58, HG58⟩ := Kd.R_form HO785.out (by omega)
                                                (first | cases eo58 | (injection eo58 with ea_ en_ ec_; (first | subst ea_ | (injection ea_ with ea_; subst ea_)); subst ec_; clear en_))
                                                have GB58 := Aside0.mk gb58
                                                have GG58 := Aside0.mk HG58
                                                clear gb58 gl58 HG58
                                                obtain ⟨hx58_0, hf58_0⟩ := Kd.R_celln 0 HO785.out ((ji55) : Int) p58 q58
                                                replace p58 := eq_true p58
                                                replace q58 := eq_true q58
                                                obtain ⟨hy79_, hz79_⟩ := Kd.R_celln 0 HO785.out ((ji55) : Int) (of_decide_eq_true (by first | (with_reducible assumption) | assumption)) (of_decide_eq_true (by first | (with_reducible assumption) | assumption))
                                                have HP79 := Kd.R_putg HO785.out ((ji55) : Int) ji54
                                                try go_wp2_with (first | ((with_reducible refine gate_store (t := 47) (p := 146) rfl ?_); refine store_event (t := 47) (p := 146) (v := ?vo_w80) (w1 := (w78.setCell ⟨go58, ((ji55) : Int).toNat, none⟩ (.int .u32 ji54))) ?hg ?ho ?hn ?hr ?_; (case ho => rfl); (case hg => rfl); (case hn => rfl); (case hr => first | (go_simp; done) | (go_simp; rfl)); intro w80 hw; have hg : w78.grownBy w80 (some go58) := (by rw [hw]; exact HP79.2); have hp_ : Kd.R (Kd.int .u32) 47 w80 w.heap.size (fun k_ => some k_ ≠ (v787 : Value).ownBlock ∧ some k_ ≠ (.slice Ao11 t766.length co11 : Value).ownBlock) (.slice (some ⟨go58, 0, none⟩) y783.length co58) y789 := (by rw [hw, Ny789.out]; exact HP79.1); clear HP79; have n0_ := Aside0.mk (Kd.R_after (v := (.slice (some ⟨go58, 0, none⟩) y783.length co58)) (v1 := (.slice (some ⟨go58, 0, none⟩) y783.length co58)) (ok := (fun k_ => some k_ ≠ (v787 : Value).ownBlock)) (by (with_reducible repeat (first | apply Kd.R_alloc | apply Kd.R_drewN | apply Kd.R_drew)); exact Kd.R_mono HO_5.out (fun _ hk => ⟨hk.2, hk.1⟩)) hg (.inl rfl)); have n1_ := Aside0.mk (hp_); have n2_ := Aside0.mk (Kd.R_after (v := (.slice (some ⟨go58, 0, none⟩) y783.length co58)) (v1 := (.slice (some ⟨go58, 0, none⟩) y783.length co58)) (ok := (fun k_ => some k_ ≠ (.slice Ao11 t766.length co11 : Value).ownBlock)) (by (with_reducible repeat (first | apply Kd.R_alloc | apply Kd.R_drewN | apply Kd.R_drew)); exact Kd.R_mono HO788.out (fun _ hk => ⟨hk.2, hk.1⟩)) hg (.inl rfl)); have n3_ := Aside0.mk ((by rw [hw]; exact below_set (HB.out) GB58.out : Below w.heap.size w w80)); clear HO_5; clear HO785; clear HO788; clear HB; have HO_5 := n0_; have HO785 := n1_; have HO788 := n2_; have HB := n3_; clear n0_ n1_ n2_ n3_; clear hg hw hp_; have p65 : 0 ≤ ((ji62) : Int) := of_decide_eq_true (by first | (with_reducible assumption) | assumption); have q65 : ((ji62) : Int) < ((y786.length : Int) : Int) := of_decide_eq_true (by first | (with_reducible assumption) | assumption); obtain ⟨go65, co65, eo65, gb65, gl65, cl65, HG65⟩ := Kd.R_form HO788.out (by omega); (first | cases eo65 | (injection eo65 with ea_ en_ ec_; (first | subst ea_ | (injection ea_ with ea_; subst ea_)); subst ec_; clear en_)); have GB65 := Aside0.mk gb65; have GG65 := Aside0.mk HG65; clear gb65 gl65 HG65; obtain ⟨hx65_0, hf65_0⟩ := Kd.R_celln 0 HO788.out ((ji62) : Int) p65 q65; replace p65 := eq_true p65; replace q65 := eq_true q65; obtain ⟨hy81_, hz81_⟩ := Kd.R_celln 0 HO788.out ((ji62) : Int) (of_decide_eq_true (by first | (with_reducible assumption) | assumption)) (of_decide_eq_true (by first | (with_reducible assumption) | assumption)); have HP81 := Kd.R_putg HO788.out ((ji62) : Int) ji61) | ((with_reducible refine gate_store (t := 47) (p := 155) rfl ?_); refine store_event (t := 47) (p := 155) (v := ?vo_w82) (w1 := (w80.setCell ⟨go65, ((ji62) : Int).toNat, none⟩ (.int .u32 ji61))) ?hg ?ho ?hn ?hr ?_; (case ho => rfl); (case hg => rfl); (case hn => rfl); (case hr => first | (go_simp; done) | (go_simp; rfl)); intro w82 hw; have hg : w80.grownBy w82 (some go65) := (by rw [hw]; exact HP81.2); have hp_ : Kd.R (Kd.int .u32) 47 w82 w.heap.size (fun k_ => some k_ ≠ (.slice Ao11 t766.length co11 : Value).ownBlock ∧ some k_ ≠ (.slice (some ⟨go58, 0, none⟩) y783.length co58 : Value).ownBlock) (.slice (some ⟨go65, 0, none⟩) y786.length co65) y790 := (by rw [hw, Ny790.out]; exact HP81.1); clear HP81; have n0_ := Aside0.mk (Kd.R_after (v := (.slice (some ⟨go65, 0, none⟩) y786.length co65)) (v1 := (.slice (some ⟨go65, 0, none⟩) y786.length co65)) (ok := (fun k_ => some k_ ≠ (.slice (some ⟨go58, 0, none⟩) y783.length co58 : Value).ownBlock)) (by (with_reducible repeat (first | apply Kd.R_alloc | apply Kd.R_drewN | apply Kd.R_drew)); exact Kd.R_mono HO_5.out (fun _ hk => ⟨hk.2, hk.1⟩)) hg (.inl rfl)); have n1_ := Aside0.mk (Kd.R_after (v := (.slice (some ⟨go65, 0, none⟩) y786.length co65)) (v1 := (.slice (some ⟨go65, 0, none⟩) y786.length co65)) (ok := (fun k_ => some k_ ≠ (.slice Ao11 t766.length co11 : Value).ownBlock)) (by (with_reducible repeat (first | apply Kd.R_alloc | apply Kd.R_drewN | apply Kd.R_drew)); exact Kd.R_mono HO785.out (fun _ hk => ⟨hk.2, hk.1⟩)) hg (.inl rfl)); have n2_ := Aside0.mk (hp_); have n3_ := Aside0.mk ((by rw [hw]; exact below_set (HB.out) GB65.out : Below w.heap.size w w82)); clear HO_5; clear HO785; clear HO788; clear HB; have HO_5 := n0_; have HO785 := n1_; have HO788 := n2_; have HB := n3_; clear n0_ n1_ n2_ n3_; clear hg hw hp_) | ((with_reducible refine gate_callee (f := 46) rfl ?_); refine goesL_ (some 159) rfl rfl Try.func46 (by kernel_rfl) rfl #[.slice Ao11 t766.length co11, .slice (some ⟨go58, 0, none⟩) y789.length co58] rfl (by (try simp only [List.map_toArray, List.map_cons, List.map_nil]); first | done | (rw [show y789.length = y783.length from (Kd.R_reads' HO785.out).1.symm] <;> rfl) | rfl | (simp only [List.length_drop, List.length_take]; rfl)) ?_; (with_reducible refine (nat_Compare.calls kj40 (fun k_ => some k_ = (.slice Ao11 t766.length co11 : Value).ownBlock) _ _ t766 (fun k_ => some k_ = (.slice (some ⟨go58, 0, none⟩) y783.length co58 : Value).ownBlock) _ _ y789 t791 t792 _ ?side1 ?side2 A66.out).mono ?_); (case side1 => exact Kd.R_V (Kd.R_tight rfl (HO_5.out))); (case side2 => rw [show y789.length = y783.length from (Kd.R_reads' HO785.out).1.symm]; exact Kd.R_V (Kd.R_tight rfl (HO785.out))); rintro e w83 ⟨rfl, hb⟩; refine ⟨_, rfl, ?_⟩; have n0_ := Aside0.mk (Kd.R_below (by (with_reducible repeat (first | apply Kd.R_alloc | apply Kd.R_drewN | apply Kd.R_drew)); exact HO_5.out) hb); have n1_ := Aside0.mk (Kd.R_below (by (with_reducible repeat (first | apply Kd.R_alloc | apply Kd.R_drewN | apply Kd.R_drew)); exact HO785.out) hb); have n2_ := Aside0.mk (Kd.R_below (by (with_reducible repeat (first | apply Kd.R_alloc | apply Kd.R_drewN | apply Kd.R_drew)); exact HO788.out) hb); have n3_ := Aside0.mk (below_step (by repeat (first | (with_reducible first | exact HB.out | apply below_alloc | apply pw_below_drewN | apply below_drew1) | exact HB.out)) hb); clear HO_5; clear HO785; clear HO788; clear HB; have HO_5 := n0_; have HO785 := n1_; have HO788 := n2_; have HB := n3_; clear n0_ n1_ n2_ n3_; (try clear hb); (try clear hb2); (try clear hk); (try clear hi)) | ((with_reducible refine gate_callee (f := 46) rfl ?_); refine goesL_ (some 165) rfl rfl Try.func46 (by kernel_rfl) rfl #[.slice (some ⟨go65, 0, none⟩) y790.length co65, .slice Ao11 t766.length co11] rfl (by (try simp only [List.map_toArray, List.map_cons, List.map_nil]); first | done | (rw [show y790.length = y786.length from (Kd.R_reads' HO788.out).1.symm] <;> rfl) | rfl | (simp only [List.length_drop, List.length_take]; rfl)) ?_; (with_reducible refine (nat_Compare.calls kj40 (fun k_ => some k_ = (.slice (some ⟨go65, 0, none⟩) y786.length co65 : Value).ownBlock) _ _ y790 (fun k_ => some k_ = (.slice Ao11 t766.length co11 : Value).ownBlock) _ _ t766 t793 t794 _ ?side1 ?side2 A67.out).mono ?_); (case side1 => rw [show y790.length = y786.length from (Kd.R_reads' HO788.out).1.symm]; exact Kd.R_V (Kd.R_tight rfl (HO788.out))); (case side2 => exact Kd.R_V (Kd.R_tight rfl (HO_5.out))); rintro e w84 ⟨rfl, hb⟩; refine ⟨_, rfl, ?_⟩; have n0_ := Aside0.mk (Kd.R_below (by (with_reducible repeat (first | apply Kd.R_alloc | apply Kd.R_drewN | apply Kd.R_drew)); exact HO_5.out) hb); have n1_ := Aside0.mk (Kd.R_below (by (with_reducible repeat (first | apply Kd.R_alloc | apply Kd.R_drewN | apply Kd.R_drew)); exact HO785.out) hb); have n2_ := Aside0.mk (Kd.R_below (by (with_reducible repeat (first | apply Kd.R_alloc | apply Kd.R_drewN | apply Kd.R_drew)); exact HO788.out) hb); have n3_ := Aside0.mk (below_step (by repeat (first | (with_reducible first | exact HB.out | apply below_alloc | apply pw_below_drewN | apply below_drew1) | exact HB.out)) hb); clear HO_5; clear HO785; clear HO788; clear HB; have HO_5 := n0_; have HO785 := n1_; have HO788 := n2_; have HB := n3_; clear n0_ n1_ n2_ n3_; (try clear hb); (try clear hb2); (try clear hk); (try clear hi)) | (go_at_call 23; (with_reducible refine (fluxionlaw01_alive.calls  t795 _ A72.out).mono ?_); rintro e w85 ⟨rfl, hb⟩; have n0_ := Aside0.mk (Kd.R_below (by (with_reducible repeat (first | apply Kd.R_alloc | apply Kd.R_drewN | apply Kd.R_drew)); exact HO_5.out) hb); have n1_ := Aside0.mk (Kd.R_below (by (with_reducible repeat (first | apply Kd.R_alloc | apply Kd.R_drewN | apply Kd.R_drew)); exact HO785.out) hb); have n2_ := Aside0.mk (Kd.R_below (by (with_reducible repeat (first | apply Kd.R_alloc | apply Kd.R_drewN | apply Kd.R_drew)); exact HO788.out) hb); have n3_ := Aside0.mk (below_step (by repeat (first | (with_reducible first | exact HB.out | apply below_alloc | apply pw_below_drewN | apply below_drew1) | exact HB.out)) hb); clear HO_5; clear HO785; clear HO788; clear HB; have HO_5 := n0_; have HO785 := n1_; have HO788 := n2_; have HB := n3_; clear n0_ n1_ n2_ n3_; (try clear hb); (try clear hb2); (try clear hk); (try clear hi)))
                                                go_ret
                                                exact ⟨by first | rfl | (simp [errW_none, errW_some] <;> rfl) | (simp only [← hji46, ← hji49, ← hji52, ← hji54, ← hji55, ← hji59, ← hji61, ← hji62]; first | rfl | (simp [errW_none, errW_some] <;> rfl)) | (simp [*, errW_none, errW_some] <;> rfl), by repeat (first | (with_reducible first | exact HB.out | apply below_alloc | apply pw_below_drewN | apply below_drew1) | exact HB.out)⟩
                                              · rw [if_neg c71] at H
                                                exact absurd H (by simp)
                                            · rw [if_neg c70] at H
                                              exact absurd H (by simp)
                                          · rw [if_neg c69] at H
                                            exact absurd H (by simp)
                                        · rw [if_neg c68] at H
                                          exact absurd H (by simp)
                                      · rw [if_neg c64] at H
                                        exact absurd H (by simp)
                                    · rw [if_neg c63] at H
                                      exact absurd H (by simp)
                                  · rw [if_neg c60] at H
                                    exact absurd H (by simp)
                                · rw [if_neg c57] at H
                                  exact absurd H (by simp)
                              · rw [if_neg c56] at H
                                exact absurd H (by simp)
                            · rw [if_neg c53] at H
                              exact absurd H (by simp)
                          · rw [if_neg c51] at H
                            exact absurd H (by simp)
                        · rw [if_neg c50] at H
                          exact absurd H (by simp)
                      · rw [if_neg c48] at H
                        exact absurd H (by simp)
                    · rw [if_neg c47] at H
                      exact absurd H (by simp)

/-- THE ONE PURE STATEMENT of fluxionlaw01_NatBits: yours. -/
theorem fluxionlaw01_NatBits.walk (P : fluxionlaw01_NatBits.Pure) (a0 : Option Addr) (len0 cap0 : Nat) (z0 : List Int) (a1 : Option Addr) (len1 cap1 : Nat) (z1 : List Int) (w : World) (w0 : (a0 = none ∧ len0 = 0 ∧ cap0 = 0 ∧ z0 = []) ∨ ∃ x, a0 = some x ∧ len0 ≤ cap0 ∧ cap0 ≤ maxLen ∧ z0.length = cap0 ∧ (∀ i, i < z0.length → w.cell? (x.add i) = some (.int .u32 (z0.getD i 0))) ∧ ∀ n ∈ z0, (Lit.int .u32 n).wf = true) (y0 : len0 * 4 ≤ 140737488351232) (w1 : (a1 = none ∧ len1 = 0 ∧ cap1 = 0 ∧ z1 = []) ∨ ∃ x, a1 = some x ∧ len1 ≤ cap1 ∧ cap1 ≤ maxLen ∧ z1.length = cap1 ∧ (∀ i, i < z1.length → w.cell? (x.add i) = some (.int .u32 (z1.getD i 0))) ∧ ∀ n ∈ z1, (Lit.int .u32 n).wf = true) (y1 : len1 * 4 ≤ 140737488351232) :
    Calls Try.prog 11 #[.slice a0 len0 cap0, .slice a1 len1 cap1] w fun e w' => e = .returned (.bool true) ∧ Below w.heap.size w w' := by
  obtain ⟨l0, rfl, hr0, hm0, hw0, hc0⟩ := ReadsInt.ofRowC w0
  obtain ⟨l1, rfl, hr1, hm1, hw1, hc1⟩ := ReadsInt.ofRowC w1
  obtain ⟨k, h⟩ := P l0 l1 hm0 y0 hw0 hm1 y1 hw1
  refine (fluxionlaw01_NatBits.calls k _ _ l0 _ _ l1 true w (Kd.C_of_reads (d := (0 : Int)) (h1 := fun _ => rfl) hr0) hc0 (Kd.C_of_reads (d := (0 : Int)) (h1 := fun _ => rfl) hr1) hc1 h).mono ?_
  rintro e w' ⟨rfl, hd⟩
  exact ⟨rfl, hd⟩

end Go.Proofs.Ytceglknbonfdeaa.PNat
