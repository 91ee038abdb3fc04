-- Printed by a program for this claim (wip/myprint.sh, wip/patchprint.py, wip/regroup.py)
import Derived.Test.YtceglknbonfdeaaX0
import Derived.Test.YtceglknbonfdeaaDNatCoprime
import Derived.Test.YtceglknbonfdeaaC8
import Derived.Test.YtceglknbonfdeaaM2
namespace Go.Proofs.Ytceglknbonfdeaa.PNat
open Go.RowKit Go.Proofs.YtceglknbonfdeaaW.PrintWords Go.Proofs.YtceglknbonfdeaaW.PrintLast Go.Proofs.YtceglknbonfdeaaW.PrintMore
attribute [local go_sem] max2_int min2_int max_two min_two max_three min_three max_four min_four   -- for this text's walks alone
set_option linter.unusedVariables false
set_option linter.unusedSimpArgs false

set_option maxHeartbeats 8000000 in
set_option maxRecDepth 100000 in
theorem fluxionlaw01_NatCoprime.calls (k : Nat) (A0 : Option Addr) (c0 : Nat) (l0 : List Int) (A1 : Option Addr) (c1 : Nat) (l1 : List Int) (A2 : Option Addr) (c2 : Nat) (l2 : List Int) (r : Bool) (w : World) (hr0 : Kd.C (Kd.int .u32) w A0 l0.length l0) (hc0 : l0.length ≤ c0) (hr1 : Kd.C (Kd.int .u32) w A1 l1.length l1) (hc1 : l1.length ≤ c1) (hr2 : Kd.C (Kd.int .u32) w A2 l2.length l2) (hc2 : l2.length ≤ c2) (h : fluxionlaw01_NatCoprime.f k l0 l1 l2 = some r) :
    Calls Try.prog 8 #[.slice A0 l0.length c0, .slice A1 l1.length c1, .slice A2 l2.length c2] w fun e w' => e = .returned (.bool r) ∧ Below w.heap.size w w' := by
  have HR0 := Aside0.mk hr0
  have HC0 := Aside0.mk hc0
  clear hr0 hc0
  have HR1 := Aside0.mk hr1
  have HC1 := Aside0.mk hc1
  clear hr1 hc1
  have HR2 := Aside0.mk hr2
  have HC2 := Aside0.mk hc2
  clear hr2 hc2
  have HB := Aside0.mk (Below.refl w.heap.size w)
  have H : ((fluxionlaw01_tame.f k l0 60).bind fun t628 => ((fluxionlaw01_tame.f k l1 60).bind fun t631 => ((fluxionlaw01_tame.f k l2 20).bind fun t634 => ((nat_Gcd.f k t628 t631).bind fun bt637 => ((nat_Gcd.f k t631 t628).bind fun bt641 => (if bt637.2 = 0 then (if bt641.2 = 0 then ((fluxionlaw01_same.f k bt637.1 bt641.1).bind fun t645 => (if t645 = true then (if (bt637.1.length : Int) > 60 then none else (fluxionlaw01_NatCoprime.j0 k t628 t631 t634 bt637.1 (((bt637.1.length : Int) == 0) != ((wrap64 ((t628.length : Int) + (t631.length : Int))) == 0)))) else none)) else none) else none)))))) = some r := h
  clear h
  replace H := Option.bind_eq_some_iff.mp H
  obtain ⟨t628, A40, H⟩ := H
  replace H : ((fluxionlaw01_tame.f k l1 60).bind fun t631 => ((fluxionlaw01_tame.f k l2 20).bind fun t634 => ((nat_Gcd.f k t628 t631).bind fun bt637 => ((nat_Gcd.f k t631 t628).bind fun bt641 => (if bt637.2 = 0 then (if bt641.2 = 0 then ((fluxionlaw01_same.f k bt637.1 bt641.1).bind fun t645 => (if t645 = true then (if (bt637.1.length : Int) > 60 then none else (fluxionlaw01_NatCoprime.j0 k t628 t631 t634 bt637.1 (((bt637.1.length : Int) == 0) != ((wrap64 ((t628.length : Int) + (t631.length : Int))) == 0)))) else none)) else none) else none))))) = some r := H
  have A4 := Aside0.mk A40
  clear A40
  replace H := Option.bind_eq_some_iff.mp H
  obtain ⟨t631, A50, H⟩ := H
  replace H : ((fluxionlaw01_tame.f k l2 20).bind fun t634 => ((nat_Gcd.f k t628 t631).bind fun bt637 => ((nat_Gcd.f k t631 t628).bind fun bt641 => (if bt637.2 = 0 then (if bt641.2 = 0 then ((fluxionlaw01_same.f k bt637.1 bt641.1).bind fun t645 => (if t645 = true then (if (bt637.1.length : Int) > 60 then none else (fluxionlaw01_NatCoprime.j0 k t628 t631 t634 bt637.1 (((bt637.1.length : Int) == 0) != ((wrap64 ((t628.length : Int) + (t631.length : Int))) == 0)))) else none)) else none) else none)))) = some r := H
  have A5 := Aside0.mk A50
  clear A50
  replace H := Option.bind_eq_some_iff.mp H
  obtain ⟨t634, A60, H⟩ := H
  replace H : ((nat_Gcd.f k t628 t631).bind fun bt637 => ((nat_Gcd.f k t631 t628).bind fun bt641 => (if bt637.2 = 0 then (if bt641.2 = 0 then ((fluxionlaw01_same.f k bt637.1 bt641.1).bind fun t645 => (if t645 = true then (if (bt637.1.length : Int) > 60 then none else (fluxionlaw01_NatCoprime.j0 k t628 t631 t634 bt637.1 (((bt637.1.length : Int) == 0) != ((wrap64 ((t628.length : Int) + (t631.length : Int))) == 0)))) else none)) else none) else none))) = some r := H
  have A6 := Aside0.mk A60
  clear A60
  replace H := Option.bind_eq_some_iff.mp H
  obtain ⟨⟨t637, t640⟩, A70, H⟩ := H
  replace H : ((nat_Gcd.f k t631 t628).bind fun bt641 => (if t640 = 0 then (if bt641.2 = 0 then ((fluxionlaw01_same.f k t637 bt641.1).bind fun t645 => (if t645 = true then (if (t637.length : Int) > 60 then none else (fluxionlaw01_NatCoprime.j0 k t628 t631 t634 t637 (((t637.length : Int) == 0) != ((wrap64 ((t628.length : Int) + (t631.length : Int))) == 0)))) else none)) else none) else none)) = some r := H
  have A7 := Aside0.mk A70
  clear A70
  replace H := Option.bind_eq_some_iff.mp H
  obtain ⟨⟨t641, t644⟩, A80, H⟩ := H
  replace H : (if t640 = 0 then (if t644 = 0 then ((fluxionlaw01_same.f k t637 t641).bind fun t645 => (if t645 = true then (if (t637.length : Int) > 60 then none else (fluxionlaw01_NatCoprime.j0 k t628 t631 t634 t637 (((t637.length : Int) == 0) != ((wrap64 ((t628.length : Int) + (t631.length : Int))) == 0)))) else none)) else none) else none) = some r := H
  have A8 := Aside0.mk A80
  clear A80
  have HC9 := Aside0.mk H
  clear H
  go_enter Try.func8, Try.ntmps8
  go_upto_region 4 with (first | ((with_reducible refine gate_callee (f := 37) rfl ?_); refine goesL_ (some 29) rfl rfl Try.func37 (by kernel_rfl) rfl #[.slice A0 l0.length c0, .int .i64 60] rfl (by (try simp only [List.map_toArray, List.map_cons, List.map_nil]); first | done | rfl | (simp only [List.length_drop, List.length_take]; rfl)) ?_; (with_reducible refine (fluxionlaw01_tame.calls k _ _ l0 60 t628 _ ?side1 ?side2 A4.out).mono ?_); (case side1 => repeat (first | exact HR0.out | (with_reducible refine Kd.C_alloc ?_ _) | (with_reducible refine Kd.C_drewN ?_ _) | (with_reducible refine Kd.C_drew ?_))); (case side2 => exact HC0.out); rintro e w10 ⟨v629, rfl, ho0, hb⟩; refine ⟨_, rfl, ?_⟩; have n0_ := Aside0.mk (Kd.R_lower ho0 (below_size (by repeat (first | (with_reducible first | exact HB.out | apply below_alloc | apply pw_below_drewN | apply below_drew1) | exact HB.out)))); have n1_ := Aside0.mk (below_step (by repeat (first | (with_reducible first | exact HB.out | apply below_alloc | apply pw_below_drewN | apply below_drew1) | exact HB.out)) hb); clear HB; have HO630 := n0_; have HB := n1_; clear n0_ n1_; (try clear hb); (try clear hb2); (try clear hk); (try clear hi); (try clear ho0)) | ((with_reducible refine gate_callee (f := 37) rfl ?_); refine goesL_ (some 31) rfl rfl Try.func37 (by kernel_rfl) rfl #[.slice A1 l1.length c1, .int .i64 60] rfl (by (try simp only [List.map_toArray, List.map_cons, List.map_nil]); first | done | rfl | (simp only [List.length_drop, List.length_take]; rfl)) ?_; (with_reducible refine (fluxionlaw01_tame.calls k _ _ l1 60 t631 _ ?side1 ?side2 A5.out).mono ?_); (case side1 => repeat (first | exact (Kd.C_below HR1.out HB.out) | (with_reducible refine Kd.C_alloc ?_ _) | (with_reducible refine Kd.C_drewN ?_ _) | (with_reducible refine Kd.C_drew ?_))); (case side2 => exact HC1.out); rintro e w11 ⟨v632, rfl, ho0, hb⟩; refine ⟨_, rfl, ?_⟩; have n0_ := Aside0.mk (Kd.R_elder' (by (with_reducible repeat (first | apply Kd.R_alloc | apply Kd.R_drewN | apply Kd.R_drew)); exact HO630.out) (Kd.R_base ho0) hb); have n1_ := Aside0.mk (Kd.R_lower (Kd.R_new' ho0 (Kd.R_lt (by (with_reducible repeat (first | apply Kd.R_alloc | apply Kd.R_drewN | apply Kd.R_drew)); exact HO630.out))) (below_size (by repeat (first | (with_reducible first | exact HB.out | apply below_alloc | apply pw_below_drewN | apply below_drew1) | exact HB.out)))); have n2_ := Aside0.mk (below_step (by repeat (first | (with_reducible first | exact HB.out | apply below_alloc | apply pw_below_drewN | apply below_drew1) | exact HB.out)) hb); clear HO630; clear HB; have HO630 := n0_; have HO633 := n1_; have HB := n2_; clear n0_ n1_ n2_; (try clear hb); (try clear hb2); (try clear hk); (try clear hi); (try clear ho0)) | ((with_reducible refine gate_callee (f := 37) rfl ?_); refine goesL_ (some 33) rfl rfl Try.func37 (by kernel_rfl) rfl #[.slice A2 l2.length c2, .int .i64 20] rfl (by (try simp only [List.map_toArray, List.map_cons, List.map_nil]); first | done | rfl | (simp only [List.length_drop, List.length_take]; rfl)) ?_; (with_reducible refine (fluxionlaw01_tame.calls k _ _ l2 20 t634 _ ?side1 ?side2 A6.out).mono ?_); (case side1 => repeat (first | exact (Kd.C_below HR2.out HB.out) | (with_reducible refine Kd.C_alloc ?_ _) | (with_reducible refine Kd.C_drewN ?_ _) | (with_reducible refine Kd.C_drew ?_))); (case side2 => exact HC2.out); rintro e w12 ⟨v635, rfl, ho0, hb⟩; refine ⟨_, rfl, ?_⟩; have n0_ := Aside0.mk (Kd.R_elder' (by (with_reducible repeat (first | apply Kd.R_alloc | apply Kd.R_drewN | apply Kd.R_drew)); exact HO630.out) (Kd.R_base ho0) hb); have n1_ := Aside0.mk (Kd.R_elder' (by (with_reducible repeat (first | apply Kd.R_alloc | apply Kd.R_drewN | apply Kd.R_drew)); exact HO633.out) (Kd.R_base ho0) hb); have n2_ := Aside0.mk (Kd.R_lower (Kd.R_new' (Kd.R_new' ho0 (Kd.R_lt (by (with_reducible repeat (first | apply Kd.R_alloc | apply Kd.R_drewN | apply Kd.R_drew)); exact HO630.out))) (Kd.R_lt (by (with_reducible repeat (first | apply Kd.R_alloc | apply Kd.R_drewN | apply Kd.R_drew)); exact HO633.out))) (below_size (by repeat (first | (with_reducible first | exact HB.out | apply below_alloc | apply pw_below_drewN | apply below_drew1) | exact HB.out)))); have n3_ := Aside0.mk (below_step (by repeat (first | (with_reducible first | exact HB.out | apply below_alloc | apply pw_below_drewN | apply below_drew1) | exact HB.out)) hb); clear HO630; clear HO633; clear HB; have HO630 := n0_; have HO633 := n1_; have HO636 := n2_; have HB := n3_; clear n0_ n1_ n2_ n3_; (try clear hb); (try clear hb2); (try clear hk); (try clear hi); (try clear ho0); obtain ⟨Ao13, co13, eo13⟩ := Kd.R_slice HO630.out; subst eo13; obtain ⟨Ao14, co14, eo14⟩ := Kd.R_slice HO633.out; subst eo14) | ((with_reducible refine gate_callee (f := 26) rfl ?_); refine goesL_ (some 37) rfl rfl Try.func26 (by kernel_rfl) rfl #[.slice Ao13 t628.length co13, .slice Ao14 t631.length co14] rfl (by (try simp only [List.map_toArray, List.map_cons, List.map_nil]); first | done | rfl | (simp only [List.length_drop, List.length_take]; rfl)) ?_; (with_reducible refine (nat_Gcd.calls k (fun k_ => some k_ = (.slice Ao13 t628.length co13 : Value).ownBlock) _ _ t628 (fun k_ => some k_ = (.slice Ao14 t631.length co14 : Value).ownBlock) _ _ t631 t637 t640 _ ?side1 ?side2 A7.out).mono ?_); (case side1 => exact Kd.R_V (Kd.R_tight rfl (HO630.out))); (case side2 => exact Kd.R_V (Kd.R_tight rfl (HO633.out))); rintro e w15 ⟨v638, rfl, ho0, hb⟩; refine ⟨_, rfl, ?_⟩; have n0_ := Aside0.mk (Kd.R_elder' (by (with_reducible repeat (first | apply Kd.R_alloc | apply Kd.R_drewN | apply Kd.R_drew)); exact HO630.out) (Kd.R_base ho0) hb); have n1_ := Aside0.mk (Kd.R_elder' (by (with_reducible repeat (first | apply Kd.R_alloc | apply Kd.R_drewN | apply Kd.R_drew)); exact HO633.out) (Kd.R_base ho0) hb); have n2_ := Aside0.mk (Kd.R_elder' (by (with_reducible repeat (first | apply Kd.R_alloc | apply Kd.R_drewN | apply Kd.R_drew)); exact HO636.out) (Kd.R_base ho0) hb); have n3_ := Aside0.mk (Kd.R_lower (Kd.R_new' (Kd.R_new' (Kd.R_new' (Kd.R_mono (ok' := fun k_ => True) ho0 (fun _ hk_ => trivial)) (Kd.R_lt (by (with_reducible repeat (first | apply Kd.R_alloc | apply Kd.R_drewN | apply Kd.R_drew)); exact HO630.out))) (Kd.R_lt (by (with_reducible repeat (first | apply Kd.R_alloc | apply Kd.R_drewN | apply Kd.R_drew)); exact HO633.out))) (Kd.R_lt (by (with_reducible repeat (first | apply Kd.R_alloc | apply Kd.R_drewN | apply Kd.R_drew)); exact HO636.out))) (below_size (by repeat (first | (with_reducible first | exact HB.out | apply below_alloc | apply pw_below_drewN | apply below_drew1) | exact HB.out)))); have n4_ := Aside0.mk (below_step (by repeat (first | (with_reducible first | exact HB.out | apply below_alloc | apply pw_below_drewN | apply below_drew1) | exact HB.out)) hb); clear HO630; clear HO633; clear HO636; clear HB; have HO630 := n0_; have HO633 := n1_; have HO636 := n2_; have HO639 := n3_; have HB := n4_; clear n0_ n1_ n2_ n3_ n4_; (try clear hb); (try clear hb2); (try clear hk); (try clear hi); (try clear ho0)) | ((with_reducible refine gate_callee (f := 26) rfl ?_); refine goesL_ (some 43) rfl rfl Try.func26 (by kernel_rfl) rfl #[.slice Ao14 t631.length co14, .slice Ao13 t628.length co13] rfl (by (try simp only [List.map_toArray, List.map_cons, List.map_nil]); first | done | rfl | (simp only [List.length_drop, List.length_take]; rfl)) ?_; (with_reducible refine (nat_Gcd.calls k (fun k_ => some k_ = (.slice Ao14 t631.length co14 : Value).ownBlock) _ _ t631 (fun k_ => some k_ = (.slice Ao13 t628.length co13 : Value).ownBlock) _ _ t628 t641 t644 _ ?side1 ?side2 A8.out).mono ?_); (case side1 => exact Kd.R_V (Kd.R_tight rfl (HO633.out))); (case side2 => exact Kd.R_V (Kd.R_tight rfl (HO630.out))); rintro e w16 ⟨v642, rfl, ho0, hb⟩; refine ⟨_, rfl, ?_⟩; have n0_ := Aside0.mk (Kd.R_elder' (by (with_reducible repeat (first | apply Kd.R_alloc | apply Kd.R_drewN | apply Kd.R_drew)); exact HO630.out) (Kd.R_base ho0) hb); have n1_ := Aside0.mk (Kd.R_elder' (by (with_reducible repeat (first | apply Kd.R_alloc | apply Kd.R_drewN | apply Kd.R_drew)); exact HO633.out) (Kd.R_base ho0) hb); have n2_ := Aside0.mk (Kd.R_elder' (by (with_reducible repeat (first | apply Kd.R_alloc | apply Kd.R_drewN | apply Kd.R_drew)); exact HO636.out) (Kd.R_base ho0) hb); have n3_ := Aside0.mk (Kd.R_elder' (by (with_reducible repeat (first | apply Kd.R_alloc | apply Kd.R_drewN | apply Kd.R_drew)); exact HO639.out) (Kd.R_base ho0) hb); have n4_ := Aside0.mk (Kd.R_lower (Kd.R_new' (Kd.R_new' (Kd.R_new' (Kd.R_new' (Kd.R_mono (ok' := fun k_ => True) ho0 (fun _ hk_ => trivial)) (Kd.R_lt (by (with_reducible repeat (first | apply Kd.R_alloc | apply Kd.R_drewN | apply Kd.R_drew)); exact HO630.out))) (Kd.R_lt (by (with_reducible repeat (first | apply Kd.R_alloc | apply Kd.R_drewN | apply Kd.R_drew)); exact HO633.out))) (Kd.R_lt (by (with_reducible repeat (first | apply Kd.R_alloc | apply Kd.R_drewN | apply Kd.R_drew)); exact HO636.out))) (Kd.R_lt (by (with_reducible repeat (first | apply Kd.R_alloc | apply Kd.R_drewN | apply Kd.R_drew)); exact HO639.out))) (below_size (by repeat (first | (with_reducible first | exact HB.out | apply below_alloc | apply pw_below_drewN | apply below_drew1) | exact HB.out)))); have n5_ := Aside0.mk (below_step (by repeat (first | (with_reducible first | exact HB.out | apply below_alloc | apply pw_below_drewN | apply below_drew1) | exact HB.out)) hb); clear HO630; clear HO633; clear HO636; clear HO639; clear HB; have HO630 := n0_; have HO633 := n1_; have HO636 := n2_; have HO639 := n3_; have HO643 := n4_; have HB := n5_; clear n0_ n1_ n2_ n3_ n4_ n5_; (try clear hb); (try clear hb2); (try clear hk); (try clear hi); (try clear ho0)))
  (try simp only [Act.put, List.setIfInBounds_toArray, List.set_cons_zero, List.set_cons_succ])
  go_cut [74] (fun v74 wc => ∃ (kq : Nat) (x74_8 : Bool), v74 = .bool x74_8 ∧ Aside0 (fluxionlaw01_NatCoprime.j0 kq t628 t631 t634 t637 x74_8 = some r) ∧ Aside0 (kq ≤ k) ∧ Aside0 (Kd.R (Kd.int .u32) 47 wc w.heap.size (fun k_ => some k_ ≠ ((.slice Ao14 t631.length co14) : Value).ownBlock ∧ some k_ ≠ (v635 : Value).ownBlock ∧ some k_ ≠ (v638 : Value).ownBlock) (.slice Ao13 t628.length co13) t628) ∧ Aside0 (Kd.R (Kd.int .u32) 47 wc w.heap.size (fun k_ => some k_ ≠ ((.slice Ao13 t628.length co13) : Value).ownBlock ∧ some k_ ≠ (v635 : Value).ownBlock ∧ some k_ ≠ (v638 : Value).ownBlock) (.slice Ao14 t631.length co14) t631) ∧ Aside0 (Kd.R (Kd.int .u32) 47 wc w.heap.size (fun k_ => some k_ ≠ ((.slice Ao13 t628.length co13) : Value).ownBlock ∧ some k_ ≠ ((.slice Ao14 t631.length co14) : Value).ownBlock ∧ some k_ ≠ (v638 : Value).ownBlock) v635 t634) ∧ Aside0 (Kd.R (Kd.int .u32) 47 wc w.heap.size (fun k_ => some k_ ≠ ((.slice Ao13 t628.length co13) : Value).ownBlock ∧ some k_ ≠ ((.slice Ao14 t631.length co14) : Value).ownBlock ∧ some k_ ≠ (v635 : Value).ownBlock) v638 t637) ∧ Aside0 (Below w.heap.size w wc))
  case first => as_aux_lemma =>
    have H := HC9.out
    clear HC9
    by_cases c17 : t640 = 0
    · rw [if_pos c17] at H
      have c17b0 : (t640 == 0) = true := beq_iff_eq.mpr c17
      have c17b1 : (t640 != 0) = false := bne_eq_false_iff_eq.mpr c17
      clear c17
      (first | rw [c17b0] | (simp only [i64_w, i32_w]; rw [c17b0]) | skip)
      by_cases c18 : t644 = 0
      · rw [if_pos c18] at H
        have c18b0 : (t644 == 0) = true := beq_iff_eq.mpr c18
        have c18b1 : (t644 != 0) = false := bne_eq_false_iff_eq.mpr c18
        clear c18
        replace H := Option.bind_eq_some_iff.mp H
        obtain ⟨t645, A190, H⟩ := H
        replace H : (if t645 = true then (if (t637.length : Int) > 60 then none else (fluxionlaw01_NatCoprime.j0 k t628 t631 t634 t637 (((t637.length : Int) == 0) != ((wrap64 ((t628.length : Int) + (t631.length : Int))) == 0)))) else none) = some r := H
        have A19 := Aside0.mk A190
        clear A190
        by_cases c20 : t645 = true
        · subst c20
          have H1 : (if (t637.length : Int) > 60 then none else (fluxionlaw01_NatCoprime.j0 k t628 t631 t634 t637 (((t637.length : Int) == 0) != ((wrap64 ((t628.length : Int) + (t631.length : Int))) == 0)))) = some r := by rw [if_pos rfl] at H; exact H
          clear H
          have H := H1
          clear H1
          by_cases c21 : (t637.length : Int) > 60
          · rw [if_pos c21] at H
            exact absurd H (by simp)
          · rw [if_neg c21] at H
            have c21b0 : decide (60 < (t637.length : Int)) = false := decide_eq_false c21
            have c21b1 : decide (60 < t637.length) = false := decide_eq_false (by omega)
            clear c21
            have H' := Aside0.mk H
            clear H
            obtain ⟨Ao24, co24, eo24⟩ := Kd.R_slice HO639.out
            subst eo24
            obtain ⟨Ao25, co25, eo25⟩ := Kd.R_slice HO643.out
            subst eo25
            go_wp2_with (first | (go_at_call 25; (with_reducible refine (fluxionlaw01_same.calls k _ _ t637 _ _ t641 true _ ?side1 ?side2 ?side3 ?side4 A19.out).mono ?_); (case side1 => repeat (first | exact (Kd.R_reads' HO639.out).2.2 | (with_reducible refine Kd.C_alloc ?_ _) | (with_reducible refine Kd.C_drewN ?_ _) | (with_reducible refine Kd.C_drew ?_))); (case side2 => exact (Kd.R_reads' HO639.out).2.1); (case side3 => repeat (first | exact (Kd.R_reads' HO643.out).2.2 | (with_reducible refine Kd.C_alloc ?_ _) | (with_reducible refine Kd.C_drewN ?_ _) | (with_reducible refine Kd.C_drew ?_))); (case side4 => exact (Kd.R_reads' HO643.out).2.1); rintro e w' ⟨rfl, ⟨nd, rfl⟩⟩))
            go_meet
            case rel => exact ⟨_, ((((t637.length : Int) == 0) != ((wrap64 ((t628.length : Int) + (t631.length : Int))) == 0))), (by first | rfl | (simp; done) | (simp [*]; done)), H', ⟨by first | omega | exact Nat.le_refl _⟩, ⟨by (with_reducible repeat (first | apply Kd.R_alloc | apply Kd.R_drewN | apply Kd.R_drew)); exact Kd.R_mono HO630.out (fun _ hk => ⟨hk.1.1.1.2, ⟨hk.1.1.2, hk.1.2⟩⟩)⟩, ⟨by (with_reducible repeat (first | apply Kd.R_alloc | apply Kd.R_drewN | apply Kd.R_drew)); exact Kd.R_mono HO633.out (fun _ hk => ⟨hk.1.1.1.2, ⟨hk.1.1.2, hk.1.2⟩⟩)⟩, ⟨by (with_reducible repeat (first | apply Kd.R_alloc | apply Kd.R_drewN | apply Kd.R_drew)); exact Kd.R_mono HO636.out (fun _ hk => ⟨hk.1.1.1.2, ⟨hk.1.1.2, hk.1.2⟩⟩)⟩, ⟨by (with_reducible repeat (first | apply Kd.R_alloc | apply Kd.R_drewN | apply Kd.R_drew)); exact Kd.R_mono HO639.out (fun _ hk => ⟨hk.1.1.1.2, ⟨hk.1.1.2, hk.1.2⟩⟩)⟩, ⟨by repeat (first | (with_reducible first | exact HB.out | apply below_alloc | apply pw_below_drewN | apply below_drew1) | exact HB.out)⟩⟩
        · replace c20 := Bool.eq_false_iff.mpr c20
          subst c20
          have H1 : none = some r := by rw [if_neg (show ¬ (false = true) by decide)] at H; exact H
          exact absurd H1 (by simp)
      · rw [if_neg c18] at H
        exact absurd H (by simp)
    · rw [if_neg c17] at H
      exact absurd H (by simp)
  case rest => as_aux_lemma =>
    clear HC9
    try clear c1
    try clear c2
    try clear p2
    try clear c3
    try clear p6
    try clear c8
    try clear c17
    try clear c17b0
    try clear c17b1
    try clear c18
    try clear c18b0
    try clear c18b1
    try clear c20
    try clear c21
    try clear c21b0
    try clear c21b1
    try clear c26
    obtain ⟨kq, x74_8, rfl, HA, HJ8, HO_7, HO_8, HO_9, HO_10, HB⟩ := hcut
    cases kq with
    | zero => exact absurd HA.out (by simp [fluxionlaw01_NatCoprime.j0])
    | succ kj8 =>
      have H := HA.out
      clear HA
      simp only [fluxionlaw01_NatCoprime.j0] at H
      by_cases c28 : x74_8 = true
      · subst c28
        have H1 : none = some r := by rw [if_pos rfl] at H; exact H
        exact absurd H1 (by simp)
      · replace c28 := Bool.eq_false_iff.mpr c28
        subst c28
        have H1 : (if (t637.length : Int) = 0 then ((fluxionlaw01_alive.f).bind fun t646 => (some t646)) else ((nat_Div.f kj8 t628 t637).bind fun bt647 => ((nat_Div.f kj8 t631 t637).bind fun bt654 => (if bt647.2.2 = 0 then (if bt654.2.2 = 0 then (if (bt647.2.1.length : Int) > 0 then none else (if (bt654.2.1.length : Int) > 0 then none else (if (bt647.1.length : Int) > 60 then none else (fluxionlaw01_NatCoprime.j1 kj8 t628 t631 t634 t637 bt647.1 bt654.1 (decide ((bt654.1.length : Int) > 60)))))) else none) else none)))) = some r := by rw [if_neg (show ¬ (false = true) by decide)] at H; exact H
        clear H
        have H := H1
        clear H1
        by_cases c29 : (t637.length : Int) = 0
        · rw [if_pos c29] at H
          have c29b0 : ((t637.length : Int) == 0) = true := beq_iff_eq.mpr c29
          have c29b1 : ((t637.length : Int) != 0) = false := bne_eq_false_iff_eq.mpr c29
          clear c29
          replace H := Option.bind_eq_some_iff.mp H
          obtain ⟨t646, A300, H⟩ := H
          replace H : (some t646) = some r := H
          have A30 := Aside0.mk A300
          clear A300
          obtain rfl := Option.some.inj H
          obtain ⟨Ao31, co31, eo31⟩ := Kd.R_slice HO_10.out
          subst eo31
          go_wp2_with (first | ((with_reducible refine gate_callee (f := 23) rfl ?_); refine goesL_ (some 78) rfl rfl Try.func23 (by kernel_rfl) rfl #[] rfl (by (try simp only [List.map_toArray, List.map_cons, List.map_nil]); first | done | rfl | (simp only [List.length_drop, List.length_take]; rfl)) ?_; (with_reducible refine (fluxionlaw01_alive.calls  t646 _ A30.out).mono ?_); rintro e w32 ⟨rfl, hb⟩; refine ⟨_, rfl, ?_⟩; have n0_ := Aside0.mk (Kd.R_below (by (with_reducible repeat (first | apply Kd.R_alloc | apply Kd.R_drewN | apply Kd.R_drew)); exact HO_7.out) hb); have n1_ := Aside0.mk (Kd.R_below (by (with_reducible repeat (first | apply Kd.R_alloc | apply Kd.R_drewN | apply Kd.R_drew)); exact HO_8.out) hb); have n2_ := Aside0.mk (Kd.R_below (by (with_reducible repeat (first | apply Kd.R_alloc | apply Kd.R_drewN | apply Kd.R_drew)); exact HO_9.out) hb); have n3_ := Aside0.mk (Kd.R_below (by (with_reducible repeat (first | apply Kd.R_alloc | apply Kd.R_drewN | apply Kd.R_drew)); exact HO_10.out) hb); have n4_ := Aside0.mk (below_step (by repeat (first | (with_reducible first | exact HB.out | apply below_alloc | apply pw_below_drewN | apply below_drew1) | exact HB.out)) hb); clear HO_7; clear HO_8; clear HO_9; clear HO_10; clear HB; have HO_7 := n0_; have HO_8 := n1_; have HO_9 := n2_; have HO_10 := n3_; have HB := n4_; clear n0_ n1_ n2_ n3_ n4_; (try clear hb); (try clear hb2); (try clear hk); (try clear hi)))
          go_ret
          exact ⟨by first | rfl | (simp [errW_none, errW_some] <;> rfl) | (simp [*, errW_none, errW_some] <;> rfl), by repeat (first | (with_reducible first | exact HB.out | apply below_alloc | apply pw_below_drewN | apply below_drew1) | exact HB.out)⟩
        · rw [if_neg c29] at H
          have c29b0 : ((t637.length : Int) == 0) = false := beq_eq_false_iff_ne.mpr c29
          have c29b1 : ((t637.length : Int) != 0) = true := bne_iff_ne.mpr c29
          have c29b2 : ¬ (t637 = []) := fun h_ => c29 (by rw [h_]; rfl)
          replace H := Option.bind_eq_some_iff.mp H
          obtain ⟨⟨t647, t650, t653⟩, A330, H⟩ := H
          replace H : ((nat_Div.f kj8 t631 t637).bind fun bt654 => (if t653 = 0 then (if bt654.2.2 = 0 then (if (t650.length : Int) > 0 then none else (if (bt654.2.1.length : Int) > 0 then none else (if (t647.length : Int) > 60 then none else (fluxionlaw01_NatCoprime.j1 kj8 t628 t631 t634 t637 t647 bt654.1 (decide ((bt654.1.length : Int) > 60)))))) else none) else none)) = some r := H
          have A33 := Aside0.mk A330
          clear A330
          replace H := Option.bind_eq_some_iff.mp H
          obtain ⟨⟨t654, t657, t660⟩, A340, H⟩ := H
          replace H : (if t653 = 0 then (if t660 = 0 then (if (t650.length : Int) > 0 then none else (if (t657.length : Int) > 0 then none else (if (t647.length : Int) > 60 then none else (fluxionlaw01_NatCoprime.j1 kj8 t628 t631 t634 t637 t647 t654 (decide ((t654.length : Int) > 60)))))) else none) else none) = some r := H
          have A34 := Aside0.mk A340
          clear A340
          have HC35 := Aside0.mk H
          clear H
          obtain ⟨Ao36, co36, eo36⟩ := Kd.R_slice HO_10.out
          subst eo36
          go_upto_region 10 with (first | ((with_reducible refine gate_callee (f := 20) rfl ?_); refine goesL_ (some 82) rfl rfl Try.func20 (by kernel_rfl) rfl #[.slice Ao13 t628.length co13, .slice Ao36 t637.length co36] rfl (by (try simp only [List.map_toArray, List.map_cons, List.map_nil]); first | done | rfl | (simp only [List.length_drop, List.length_take]; rfl)) ?_; (with_reducible refine (nat_Div.calls kj8 (fun k_ => some k_ = (.slice Ao13 t628.length co13 : Value).ownBlock) _ _ t628 (fun k_ => some k_ = (.slice Ao36 t637.length co36 : Value).ownBlock) _ _ t637 t647 t650 t653 _ ?side1 ?side2 A33.out).mono ?_); (case side1 => exact Kd.R_V (Kd.R_tight rfl (HO_7.out))); (case side2 => exact Kd.R_V (Kd.R_tight rfl (HO_10.out))); rintro e w37 ⟨v648, v651, rfl, ho0, ho1, hb⟩; refine ⟨_, rfl, ?_⟩; have n0_ := Aside0.mk (Kd.R_below (by (with_reducible repeat (first | apply Kd.R_alloc | apply Kd.R_drewN | apply Kd.R_drew)); exact HO_7.out) hb); have n1_ := Aside0.mk (Kd.R_below (by (with_reducible repeat (first | apply Kd.R_alloc | apply Kd.R_drewN | apply Kd.R_drew)); exact HO_8.out) hb); have n2_ := Aside0.mk (Kd.R_below (by (with_reducible repeat (first | apply Kd.R_alloc | apply Kd.R_drewN | apply Kd.R_drew)); exact HO_9.out) hb); have n3_ := Aside0.mk (Kd.R_below (by (with_reducible repeat (first | apply Kd.R_alloc | apply Kd.R_drewN | apply Kd.R_drew)); exact HO_10.out) hb); have n4_ := Aside0.mk (Kd.V_lower (Kd.V_mono (ok' := fun k_ => some k_ ≠ (.slice Ao14 t631.length co14 : Value).ownBlock ∧ some k_ ≠ (v635 : Value).ownBlock) ho0 (fun k_ hk_ => ⟨Or.elim hk_ (fun hs_ => Or.elim hs_ (fun hs_ => ((HO_7.out).1 k_ hs_.symm).1) (fun hs_ => ((HO_10.out).1 k_ hs_.symm).2.1)) (fun hn_ => (Kd.fresh' (Kd.R_lt (by (with_reducible repeat (first | apply Kd.R_alloc | apply Kd.R_drewN | apply Kd.R_drew)); exact HO_8.out)) k_ hn_)), Or.elim hk_ (fun hs_ => Or.elim hs_ (fun hs_ => ((HO_7.out).1 k_ hs_.symm).2.1) (fun hs_ => ((HO_10.out).1 k_ hs_.symm).2.2)) (fun hn_ => (Kd.fresh' (Kd.R_lt (by (with_reducible repeat (first | apply Kd.R_alloc | apply Kd.R_drewN | apply Kd.R_drew)); exact HO_9.out)) k_ hn_))⟩)) (below_size (by repeat (first | (with_reducible first | exact HB.out | apply below_alloc | apply pw_below_drewN | apply below_drew1) | exact HB.out)))); have n5_ := Aside0.mk (Kd.V_lower (Kd.V_mono (ok' := fun k_ => some k_ ≠ (.slice Ao14 t631.length co14 : Value).ownBlock ∧ some k_ ≠ (v635 : Value).ownBlock) ho1 (fun k_ hk_ => ⟨Or.elim hk_ (fun hs_ => Or.elim hs_ (fun hs_ => ((HO_7.out).1 k_ hs_.symm).1) (fun hs_ => ((HO_10.out).1 k_ hs_.symm).2.1)) (fun hn_ => (Kd.fresh' (Kd.R_lt (by (with_reducible repeat (first | apply Kd.R_alloc | apply Kd.R_drewN | apply Kd.R_drew)); exact HO_8.out)) k_ hn_)), Or.elim hk_ (fun hs_ => Or.elim hs_ (fun hs_ => ((HO_7.out).1 k_ hs_.symm).2.1) (fun hs_ => ((HO_10.out).1 k_ hs_.symm).2.2)) (fun hn_ => (Kd.fresh' (Kd.R_lt (by (with_reducible repeat (first | apply Kd.R_alloc | apply Kd.R_drewN | apply Kd.R_drew)); exact HO_9.out)) k_ hn_))⟩)) (below_size (by repeat (first | (with_reducible first | exact HB.out | apply below_alloc | apply pw_below_drewN | apply below_drew1) | exact HB.out)))); have n6_ := Aside0.mk (below_step (by repeat (first | (with_reducible first | exact HB.out | apply below_alloc | apply pw_below_drewN | apply below_drew1) | exact HB.out)) hb); clear HO_7; clear HO_8; clear HO_9; clear HO_10; clear HB; have HO_7 := n0_; have HO_8 := n1_; have HO_9 := n2_; have HO_10 := n3_; have HO649 := n4_; have HO652 := n5_; have HB := n6_; clear n0_ n1_ n2_ n3_ n4_ n5_ n6_; (try clear hb); (try clear hb2); (try clear hk); (try clear hi); (try clear ho0); (try clear ho1)) | ((with_reducible refine gate_callee (f := 20) rfl ?_); refine goesL_ (some 89) rfl rfl Try.func20 (by kernel_rfl) rfl #[.slice Ao14 t631.length co14, .slice Ao36 t637.length co36] rfl (by (try simp only [List.map_toArray, List.map_cons, List.map_nil]); first | done | rfl | (simp only [List.length_drop, List.length_take]; rfl)) ?_; (with_reducible refine (nat_Div.calls kj8 (fun k_ => some k_ = (.slice Ao14 t631.length co14 : Value).ownBlock) _ _ t631 (fun k_ => some k_ = (.slice Ao36 t637.length co36 : Value).ownBlock) _ _ t637 t654 t657 t660 _ ?side1 ?side2 A34.out).mono ?_); (case side1 => exact Kd.R_V (Kd.R_tight rfl (HO_8.out))); (case side2 => exact Kd.R_V (Kd.R_tight rfl (HO_10.out))); rintro e w38 ⟨v655, v658, rfl, ho0, ho1, hb⟩; refine ⟨_, rfl, ?_⟩; have n0_ := Aside0.mk (Kd.R_below (by (with_reducible repeat (first | apply Kd.R_alloc | apply Kd.R_drewN | apply Kd.R_drew)); exact HO_7.out) hb); have n1_ := Aside0.mk (Kd.R_below (by (with_reducible repeat (first | apply Kd.R_alloc | apply Kd.R_drewN | apply Kd.R_drew)); exact HO_8.out) hb); have n2_ := Aside0.mk (Kd.R_below (by (with_reducible repeat (first | apply Kd.R_alloc | apply Kd.R_drewN | apply Kd.R_drew)); exact HO_9.out) hb); have n3_ := Aside0.mk (Kd.R_below (by (with_reducible repeat (first | apply Kd.R_alloc | apply Kd.R_drewN | apply Kd.R_drew)); exact HO_10.out) hb); have n4_ := Aside0.mk (Kd.V_below (by (with_reducible repeat (first | apply Kd.V_alloc | apply Kd.V_drewN | apply Kd.V_drew)); exact HO649.out) hb); have n5_ := Aside0.mk (Kd.V_below (by (with_reducible repeat (first | apply Kd.V_alloc | apply Kd.V_drewN | apply Kd.V_drew)); exact HO652.out) hb); have n6_ := Aside0.mk (Kd.V_lower (Kd.V_mono (ok' := fun k_ => some k_ ≠ (.slice Ao13 t628.length co13 : Value).ownBlock ∧ some k_ ≠ (v635 : Value).ownBlock) ho0 (fun k_ hk_ => ⟨Or.elim hk_ (fun hs_ => Or.elim hs_ (fun hs_ => ((HO_8.out).1 k_ hs_.symm).1) (fun hs_ => ((HO_10.out).1 k_ hs_.symm).1)) (fun hn_ => (Kd.fresh' (Kd.R_lt (by (with_reducible repeat (first | apply Kd.R_alloc | apply Kd.R_drewN | apply Kd.R_drew)); exact HO_7.out)) k_ hn_)), Or.elim hk_ (fun hs_ => Or.elim hs_ (fun hs_ => ((HO_8.out).1 k_ hs_.symm).2.1) (fun hs_ => ((HO_10.out).1 k_ hs_.symm).2.2)) (fun hn_ => (Kd.fresh' (Kd.R_lt (by (with_reducible repeat (first | apply Kd.R_alloc | apply Kd.R_drewN | apply Kd.R_drew)); exact HO_9.out)) k_ hn_))⟩)) (below_size (by repeat (first | (with_reducible first | exact HB.out | apply below_alloc | apply pw_below_drewN | apply below_drew1) | exact HB.out)))); have n7_ := Aside0.mk (Kd.V_lower (Kd.V_mono (ok' := fun k_ => some k_ ≠ (.slice Ao13 t628.length co13 : Value).ownBlock ∧ some k_ ≠ (v635 : Value).ownBlock) ho1 (fun k_ hk_ => ⟨Or.elim hk_ (fun hs_ => Or.elim hs_ (fun hs_ => ((HO_8.out).1 k_ hs_.symm).1) (fun hs_ => ((HO_10.out).1 k_ hs_.symm).1)) (fun hn_ => (Kd.fresh' (Kd.R_lt (by (with_reducible repeat (first | apply Kd.R_alloc | apply Kd.R_drewN | apply Kd.R_drew)); exact HO_7.out)) k_ hn_)), Or.elim hk_ (fun hs_ => Or.elim hs_ (fun hs_ => ((HO_8.out).1 k_ hs_.symm).2.1) (fun hs_ => ((HO_10.out).1 k_ hs_.symm).2.2)) (fun hn_ => (Kd.fresh' (Kd.R_lt (by (with_reducible repeat (first | apply Kd.R_alloc | apply Kd.R_drewN | apply Kd.R_drew)); exact HO_9.out)) k_ hn_))⟩)) (below_size (by repeat (first | (with_reducible first | exact HB.out | apply below_alloc | apply pw_below_drewN | apply below_drew1) | exact HB.out)))); have n8_ := Aside0.mk (below_step (by repeat (first | (with_reducible first | exact HB.out | apply below_alloc | apply pw_below_drewN | apply below_drew1) | exact HB.out)) hb); clear HO_7; clear HO_8; clear HO_9; clear HO_10; clear HO649; clear HO652; clear HB; have HO_7 := n0_; have HO_8 := n1_; have HO_9 := n2_; have HO_10 := n3_; have HO649 := n4_; have HO652 := n5_; have HO656 := n6_; have HO659 := n7_; have HB := n8_; clear n0_ n1_ n2_ n3_ n4_ n5_ n6_ n7_ n8_; (try clear hb); (try clear hb2); (try clear hk); (try clear hi); (try clear ho0); (try clear ho1)))
          (try simp only [Act.put, List.setIfInBounds_toArray, List.set_cons_zero, List.set_cons_succ])
          go_cut [118] (fun v118 wc => ∃ (kq : Nat) (x118_34 : Bool), v118 = .bool x118_34 ∧ Aside0 (fluxionlaw01_NatCoprime.j1 kq t628 t631 t634 t637 t647 t654 x118_34 = some r) ∧ Aside0 (kq ≤ kj8) ∧ Aside0 (Kd.R (Kd.int .u32) 47 wc w.heap.size (fun k_ => some k_ ≠ ((.slice Ao14 t631.length co14) : Value).ownBlock ∧ some k_ ≠ (v635 : Value).ownBlock ∧ some k_ ≠ ((.slice Ao36 t637.length co36) : Value).ownBlock) (.slice Ao13 t628.length co13) t628) ∧ Aside0 (Kd.R (Kd.int .u32) 47 wc w.heap.size (fun k_ => some k_ ≠ ((.slice Ao13 t628.length co13) : Value).ownBlock ∧ some k_ ≠ (v635 : Value).ownBlock ∧ some k_ ≠ ((.slice Ao36 t637.length co36) : Value).ownBlock) (.slice Ao14 t631.length co14) t631) ∧ Aside0 (Kd.R (Kd.int .u32) 47 wc w.heap.size (fun k_ => some k_ ≠ ((.slice Ao13 t628.length co13) : Value).ownBlock ∧ some k_ ≠ ((.slice Ao14 t631.length co14) : Value).ownBlock ∧ some k_ ≠ ((.slice Ao36 t637.length co36) : Value).ownBlock) v635 t634) ∧ Aside0 (Kd.R (Kd.int .u32) 47 wc w.heap.size (fun k_ => some k_ ≠ ((.slice Ao13 t628.length co13) : Value).ownBlock ∧ some k_ ≠ ((.slice Ao14 t631.length co14) : Value).ownBlock ∧ some k_ ≠ (v635 : Value).ownBlock) (.slice Ao36 t637.length co36) t637) ∧ Aside0 (Kd.V (Kd.int .u32) 47 wc w.heap.size (fun k_ => some k_ ≠ ((.slice Ao14 t631.length co14) : Value).ownBlock ∧ some k_ ≠ (v635 : Value).ownBlock) v648 t647) ∧ Aside0 (Kd.V (Kd.int .u32) 47 wc w.heap.size (fun k_ => some k_ ≠ ((.slice Ao13 t628.length co13) : Value).ownBlock ∧ some k_ ≠ (v635 : Value).ownBlock) v655 t654) ∧ Aside0 (Below w.heap.size w wc))
          case first => as_aux_lemma =>
            have H := HC35.out
            clear HC35
            by_cases c39 : t653 = 0
            · rw [if_pos c39] at H
              have c39b0 : (t653 == 0) = true := beq_iff_eq.mpr c39
              have c39b1 : (t653 != 0) = false := bne_eq_false_iff_eq.mpr c39
              clear c39
              (first | rw [c39b0] | (simp only [i64_w, i32_w]; rw [c39b0]) | skip)
              by_cases c40 : t660 = 0
              · rw [if_pos c40] at H
                have c40b0 : (t660 == 0) = true := beq_iff_eq.mpr c40
                have c40b1 : (t660 != 0) = false := bne_eq_false_iff_eq.mpr c40
                clear c40
                by_cases c41 : (t650.length : Int) > 0
                · rw [if_pos c41] at H
                  exact absurd H (by simp)
                · rw [if_neg c41] at H
                  have c41b0 : decide (0 < (t650.length : Int)) = false := decide_eq_false c41
                  have c41b1 : decide (0 < t650.length) = false := decide_eq_false (by omega)
                  clear c41
                  by_cases c43 : (t657.length : Int) > 0
                  · rw [if_pos c43] at H
                    exact absurd H (by simp)
                  · rw [if_neg c43] at H
                    have c43b0 : decide (0 < (t657.length : Int)) = false := decide_eq_false c43
                    have c43b1 : decide (0 < t657.length) = false := decide_eq_false (by omega)
                    clear c43
                    by_cases c46 : (t647.length : Int) > 60
                    · rw [if_pos c46] at H
                      exact absurd H (by simp)
                    · rw [if_neg c46] at H
                      have c46b0 : decide (60 < (t647.length : Int)) = false := decide_eq_false c46
                      have c46b1 : decide (60 < t647.length) = false := decide_eq_false (by omega)
                      clear c46
                      have H' := Aside0.mk H
                      clear H
                      obtain ⟨Ao50, co50, eo50⟩ := Kd.V_slice HO652.out
                      subst eo50
                      obtain ⟨Ao51, co51, eo51⟩ := Kd.V_slice HO659.out
                      subst eo51
                      obtain ⟨Ao52, co52, eo52⟩ := Kd.V_slice HO649.out
                      subst eo52
                      obtain ⟨Ao53, co53, eo53⟩ := Kd.V_slice HO656.out
                      subst eo53
                      go_wp2
                      go_meet
                      case rel => exact ⟨_, (decide ((t654.length : Int) > 60)), (by first | rfl | (simp; done) | (simp [*]; done)), H', ⟨by have := HJ8.out; first | omega | exact Nat.le_refl _⟩, ⟨by (with_reducible repeat (first | apply Kd.R_alloc | apply Kd.R_drewN | apply Kd.R_drew)); exact HO_7.out⟩, ⟨by (with_reducible repeat (first | apply Kd.R_alloc | apply Kd.R_drewN | apply Kd.R_drew)); exact HO_8.out⟩, ⟨by (with_reducible repeat (first | apply Kd.R_alloc | apply Kd.R_drewN | apply Kd.R_drew)); exact HO_9.out⟩, ⟨by (with_reducible repeat (first | apply Kd.R_alloc | apply Kd.R_drewN | apply Kd.R_drew)); exact HO_10.out⟩, ⟨by (with_reducible repeat (first | apply Kd.V_alloc | apply Kd.V_drewN | apply Kd.V_drew)); exact HO649.out⟩, ⟨by (with_reducible repeat (first | apply Kd.V_alloc | apply Kd.V_drewN | apply Kd.V_drew)); exact HO656.out⟩, ⟨by repeat (first | (with_reducible first | exact HB.out | apply below_alloc | apply pw_below_drewN | apply below_drew1) | exact HB.out)⟩⟩
              · rw [if_neg c40] at H
                exact absurd H (by simp)
            · rw [if_neg c39] at H
              exact absurd H (by simp)
          case rest => as_aux_lemma =>
            clear HC35
            try clear c1
            try clear c2
            try clear p2
            try clear c3
            try clear c4
            try clear p6
            try clear c8
            try clear c17
            try clear c17b0
            try clear c17b1
            try clear c18
            try clear c18b0
            try clear c18b1
            try clear c20
            try clear c21
            try clear c21b0
            try clear c21b1
            try clear c23
            try clear c26
            try clear c28
            try clear c29
            try clear c29b0
            try clear c29b1
            try clear c29b2
            try clear c37
            try clear c39
            try clear c39b0
            try clear c39b1
            try clear c40
            try clear c40b0
            try clear c40b1
            try clear c41
            try clear c41b0
            try clear c41b1
            try clear c43
            try clear c43b0
            try clear c43b1
            try clear c46
            try clear c46b0
            try clear c46b1
            try clear p2
            try clear p6
            obtain ⟨kq, x118_34, rfl, HA, HJ34, HO_7, HO_8, HO_9, HO_10, HO_14, HO_16, HB⟩ := hcut
            cases kq with
            | zero => exact absurd HA.out (by simp [fluxionlaw01_NatCoprime.j1])
            | succ kj34 =>
              have H := HA.out
              clear HA
              simp only [fluxionlaw01_NatCoprime.j1] at H
              by_cases c54 : x118_34 = true
              · subst c54
                have H1 : none = some r := by rw [if_pos rfl] at H; exact H
                exact absurd H1 (by simp)
              · replace c54 := Bool.eq_false_iff.mpr c54
                subst c54
                have H1 : ((nat_Gcd.f kj34 t647 t654).bind fun bt661 => ((fluxionlaw01_product.f kj34 t628 t634).bind fun bt665 => ((fluxionlaw01_product.f kj34 t631 t634).bind fun bt669 => (if bt661.2 = 0 then ((fluxionlaw01_same.f kj34 bt661.1 (([1] : List Int))).bind fun t676 => (if t676 = true then (if bt665.2 = true then (if bt669.2 = true then (if (bt665.1.length : Int) > 80 then none else (fluxionlaw01_NatCoprime.j2 kj34 t634 t637 bt665.1 bt669.1 (decide ((bt669.1.length : Int) > 80)))) else none) else none) else none)) else none)))) = some r := by rw [if_neg (show ¬ (false = true) by decide)] at H; exact H
                clear H
                have H := H1
                clear H1
                replace H := Option.bind_eq_some_iff.mp H
                obtain ⟨⟨t661, t664⟩, A550, H⟩ := H
                replace H : ((fluxionlaw01_product.f kj34 t628 t634).bind fun bt665 => ((fluxionlaw01_product.f kj34 t631 t634).bind fun bt669 => (if t664 = 0 then ((fluxionlaw01_same.f kj34 t661 (([1] : List Int))).bind fun t676 => (if t676 = true then (if bt665.2 = true then (if bt669.2 = true then (if (bt665.1.length : Int) > 80 then none else (fluxionlaw01_NatCoprime.j2 kj34 t634 t637 bt665.1 bt669.1 (decide ((bt669.1.length : Int) > 80)))) else none) else none) else none)) else none))) = some r := H
                have A55 := Aside0.mk A550
                clear A550
                replace H := Option.bind_eq_some_iff.mp H
                obtain ⟨⟨t665, t668⟩, A560, H⟩ := H
                replace H : ((fluxionlaw01_product.f kj34 t631 t634).bind fun bt669 => (if t664 = 0 then ((fluxionlaw01_same.f kj34 t661 (([1] : List Int))).bind fun t676 => (if t676 = true then (if t668 = true then (if bt669.2 = true then (if (t665.length : Int) > 80 then none else (fluxionlaw01_NatCoprime.j2 kj34 t634 t637 t665 bt669.1 (decide ((bt669.1.length : Int) > 80)))) else none) else none) else none)) else none)) = some r := H
                have A56 := Aside0.mk A560
                clear A560
                replace H := Option.bind_eq_some_iff.mp H
                obtain ⟨⟨t669, t672⟩, A570, H⟩ := H
                replace H : (if t664 = 0 then ((fluxionlaw01_same.f kj34 t661 (([1] : List Int))).bind fun t676 => (if t676 = true then (if t668 = true then (if t672 = true then (if (t665.length : Int) > 80 then none else (fluxionlaw01_NatCoprime.j2 kj34 t634 t637 t665 t669 (decide ((t669.length : Int) > 80)))) else none) else none) else none)) else none) = some r := H
                have A57 := Aside0.mk A570
                clear A570
                have HC58 := Aside0.mk H
                clear H
                obtain ⟨Ao59, co59, eo59⟩ := Kd.V_slice HO_14.out
                subst eo59
                obtain ⟨Ao60, co60, eo60⟩ := Kd.V_slice HO_16.out
                subst eo60
                go_upto_region 15 with (first | ((with_reducible refine gate_callee (f := 26) rfl ?_); refine goesL_ (some 122) rfl rfl Try.func26 (by kernel_rfl) rfl #[.slice Ao59 t647.length co59, .slice Ao60 t654.length co60] rfl (by (try simp only [List.map_toArray, List.map_cons, List.map_nil]); first | done | rfl | (simp only [List.length_drop, List.length_take]; rfl)) ?_; (with_reducible refine (nat_Gcd.calls kj34 (fun k_ => (some k_ ≠ (.slice Ao14 t631.length co14 : Value).ownBlock ∧ some k_ ≠ (v635 : Value).ownBlock)) _ _ t647 (fun k_ => (some k_ ≠ (.slice Ao13 t628.length co13 : Value).ownBlock ∧ some k_ ≠ (v635 : Value).ownBlock)) _ _ t654 t661 t664 _ ?side1 ?side2 A55.out).mono ?_); (case side1 => exact HO_14.out); (case side2 => exact HO_16.out); rintro e w61 ⟨v662, rfl, ho0, hb⟩; refine ⟨_, rfl, ?_⟩; have n0_ := Aside0.mk (Kd.R_elder' (by (with_reducible repeat (first | apply Kd.R_alloc | apply Kd.R_drewN | apply Kd.R_drew)); exact HO_7.out) (Kd.R_base ho0) hb); have n1_ := Aside0.mk (Kd.R_elder' (by (with_reducible repeat (first | apply Kd.R_alloc | apply Kd.R_drewN | apply Kd.R_drew)); exact HO_8.out) (Kd.R_base ho0) hb); have n2_ := Aside0.mk (Kd.R_elder' (by (with_reducible repeat (first | apply Kd.R_alloc | apply Kd.R_drewN | apply Kd.R_drew)); exact HO_9.out) (Kd.R_base ho0) hb); have n3_ := Aside0.mk (Kd.R_elder' (by (with_reducible repeat (first | apply Kd.R_alloc | apply Kd.R_drewN | apply Kd.R_drew)); exact HO_10.out) (Kd.R_base ho0) hb); have n4_ := Aside0.mk (Kd.V_elder' (by (with_reducible repeat (first | apply Kd.V_alloc | apply Kd.V_drewN | apply Kd.V_drew)); exact HO_14.out) (Kd.R_base ho0) hb); have n5_ := Aside0.mk (Kd.V_elder' (by (with_reducible repeat (first | apply Kd.V_alloc | apply Kd.V_drewN | apply Kd.V_drew)); exact HO_16.out) (Kd.R_base ho0) hb); have n6_ := Aside0.mk (Kd.R_lower (Kd.R_new' (Kd.R_new' (Kd.R_new' (Kd.R_new' (Kd.R_mono (ok' := fun k_ => True) ho0 (fun _ hk_ => trivial)) (Kd.R_lt (by (with_reducible repeat (first | apply Kd.R_alloc | apply Kd.R_drewN | apply Kd.R_drew)); exact HO_7.out))) (Kd.R_lt (by (with_reducible repeat (first | apply Kd.R_alloc | apply Kd.R_drewN | apply Kd.R_drew)); exact HO_8.out))) (Kd.R_lt (by (with_reducible repeat (first | apply Kd.R_alloc | apply Kd.R_drewN | apply Kd.R_drew)); exact HO_9.out))) (Kd.R_lt (by (with_reducible repeat (first | apply Kd.R_alloc | apply Kd.R_drewN | apply Kd.R_drew)); exact HO_10.out))) (below_size (by repeat (first | (with_reducible first | exact HB.out | apply below_alloc | apply pw_below_drewN | apply below_drew1) | exact HB.out)))); have n7_ := Aside0.mk (below_step (by repeat (first | (with_reducible first | exact HB.out | apply below_alloc | apply pw_below_drewN | apply below_drew1) | exact HB.out)) hb); clear HO_7; clear HO_8; clear HO_9; clear HO_10; clear HO_14; clear HO_16; clear HB; have HO_7 := n0_; have HO_8 := n1_; have HO_9 := n2_; have HO_10 := n3_; have HO_14 := n4_; have HO_16 := n5_; have HO663 := n6_; have HB := n7_; clear n0_ n1_ n2_ n3_ n4_ n5_ n6_ n7_; (try clear hb); (try clear hb2); (try clear hk); (try clear hi); (try clear ho0); obtain ⟨Ao62, co62, eo62⟩ := Kd.R_slice HO_9.out; subst eo62) | ((with_reducible refine gate_callee (f := 38) rfl ?_); refine goesL_ (some 128) rfl rfl Try.func38 (by kernel_rfl) rfl #[.slice Ao13 t628.length co13, .slice Ao62 t634.length co62] rfl (by (try simp only [List.map_toArray, List.map_cons, List.map_nil]); first | done | rfl | (simp only [List.length_drop, List.length_take]; rfl)) ?_; (with_reducible refine (fluxionlaw01_product.calls kj34 (fun k_ => some k_ = (.slice Ao13 t628.length co13 : Value).ownBlock) _ _ t628 (fun k_ => some k_ = (.slice Ao62 t634.length co62 : Value).ownBlock) _ _ t634 t665 t668 _ ?side1 ?side2 A56.out).mono ?_); (case side1 => exact Kd.R_V (Kd.R_tight rfl (HO_7.out))); (case side2 => exact Kd.R_V (Kd.R_tight rfl (HO_9.out))); rintro e w63 ⟨v666, rfl, ho0, hb⟩; refine ⟨_, rfl, ?_⟩; have n0_ := Aside0.mk (Kd.R_below (by (with_reducible repeat (first | apply Kd.R_alloc | apply Kd.R_drewN | apply Kd.R_drew)); exact HO_7.out) hb); have n1_ := Aside0.mk (Kd.R_below (by (with_reducible repeat (first | apply Kd.R_alloc | apply Kd.R_drewN | apply Kd.R_drew)); exact HO_8.out) hb); have n2_ := Aside0.mk (Kd.R_below (by (with_reducible repeat (first | apply Kd.R_alloc | apply Kd.R_drewN | apply Kd.R_drew)); exact HO_9.out) hb); have n3_ := Aside0.mk (Kd.R_below (by (with_reducible repeat (first | apply Kd.R_alloc | apply Kd.R_drewN | apply Kd.R_drew)); exact HO_10.out) hb); have n4_ := Aside0.mk (Kd.V_below (by (with_reducible repeat (first | apply Kd.V_alloc | apply Kd.V_drewN | apply Kd.V_drew)); exact HO_14.out) hb); have n5_ := Aside0.mk (Kd.V_below (by (with_reducible repeat (first | apply Kd.V_alloc | apply Kd.V_drewN | apply Kd.V_drew)); exact HO_16.out) hb); have n6_ := Aside0.mk (Kd.R_below (by (with_reducible repeat (first | apply Kd.R_alloc | apply Kd.R_drewN | apply Kd.R_drew)); exact HO663.out) hb); have n7_ := Aside0.mk (Kd.V_lower (Kd.V_mono (ok' := fun k_ => some k_ ≠ (.slice Ao14 t631.length co14 : Value).ownBlock ∧ some k_ ≠ (.slice Ao36 t637.length co36 : Value).ownBlock ∧ some k_ ≠ (v662 : Value).ownBlock) ho0 (fun k_ hk_ => ⟨Or.elim hk_ (fun hs_ => Or.elim hs_ (fun hs_ => ((HO_7.out).1 k_ hs_.symm).1.1) (fun hs_ => ((HO_9.out).1 k_ hs_.symm).1.2.1)) (fun hn_ => (Kd.fresh' (Kd.R_lt (by (with_reducible repeat (first | apply Kd.R_alloc | apply Kd.R_drewN | apply Kd.R_drew)); exact HO_8.out)) k_ hn_)), Or.elim hk_ (fun hs_ => Or.elim hs_ (fun hs_ => ((HO_7.out).1 k_ hs_.symm).1.2.2) (fun hs_ => ((HO_9.out).1 k_ hs_.symm).1.2.2)) (fun hn_ => (Kd.fresh' (Kd.R_lt (by (with_reducible repeat (first | apply Kd.R_alloc | apply Kd.R_drewN | apply Kd.R_drew)); exact HO_10.out)) k_ hn_)), Or.elim hk_ (fun hs_ => Or.elim hs_ (fun hs_ => ((HO_7.out).1 k_ hs_.symm).2) (fun hs_ => ((HO_9.out).1 k_ hs_.symm).2)) (fun hn_ => (Kd.fresh' (Kd.R_lt (by (with_reducible repeat (first | apply Kd.R_alloc | apply Kd.R_drewN | apply Kd.R_drew)); exact HO663.out)) k_ hn_))⟩)) (below_size (by repeat (first | (with_reducible first | exact HB.out | apply below_alloc | apply pw_below_drewN | apply below_drew1) | exact HB.out)))); have n8_ := Aside0.mk (below_step (by repeat (first | (with_reducible first | exact HB.out | apply below_alloc | apply pw_below_drewN | apply below_drew1) | exact HB.out)) hb); clear HO_7; clear HO_8; clear HO_9; clear HO_10; clear HO_14; clear HO_16; clear HO663; clear HB; have HO_7 := n0_; have HO_8 := n1_; have HO_9 := n2_; have HO_10 := n3_; have HO_14 := n4_; have HO_16 := n5_; have HO663 := n6_; have HO667 := n7_; have HB := n8_; clear n0_ n1_ n2_ n3_ n4_ n5_ n6_ n7_ n8_; (try clear hb); (try clear hb2); (try clear hk); (try clear hi); (try clear ho0)) | ((with_reducible refine gate_callee (f := 38) rfl ?_); refine goesL_ (some 134) rfl rfl Try.func38 (by kernel_rfl) rfl #[.slice Ao14 t631.length co14, .slice Ao62 t634.length co62] rfl (by (try simp only [List.map_toArray, List.map_cons, List.map_nil]); first | done | rfl | (simp only [List.length_drop, List.length_take]; rfl)) ?_; (with_reducible refine (fluxionlaw01_product.calls kj34 (fun k_ => some k_ = (.slice Ao14 t631.length co14 : Value).ownBlock) _ _ t631 (fun k_ => some k_ = (.slice Ao62 t634.length co62 : Value).ownBlock) _ _ t634 t669 t672 _ ?side1 ?side2 A57.out).mono ?_); (case side1 => exact Kd.R_V (Kd.R_tight rfl (HO_8.out))); (case side2 => exact Kd.R_V (Kd.R_tight rfl (HO_9.out))); rintro e w64 ⟨v670, rfl, ho0, hb⟩; refine ⟨_, rfl, ?_⟩; have n0_ := Aside0.mk (Kd.R_below (by (with_reducible repeat (first | apply Kd.R_alloc | apply Kd.R_drewN | apply Kd.R_drew)); exact HO_7.out) hb); have n1_ := Aside0.mk (Kd.R_below (by (with_reducible repeat (first | apply Kd.R_alloc | apply Kd.R_drewN | apply Kd.R_drew)); exact HO_8.out) hb); have n2_ := Aside0.mk (Kd.R_below (by (with_reducible repeat (first | apply Kd.R_alloc | apply Kd.R_drewN | apply Kd.R_drew)); exact HO_9.out) hb); have n3_ := Aside0.mk (Kd.R_below (by (with_reducible repeat (first | apply Kd.R_alloc | apply Kd.R_drewN | apply Kd.R_drew)); exact HO_10.out) hb); have n4_ := Aside0.mk (Kd.V_below (by (with_reducible repeat (first | apply Kd.V_alloc | apply Kd.V_drewN | apply Kd.V_drew)); exact HO_14.out) hb); have n5_ := Aside0.mk (Kd.V_below (by (with_reducible repeat (first | apply Kd.V_alloc | apply Kd.V_drewN | apply Kd.V_drew)); exact HO_16.out) hb); have n6_ := Aside0.mk (Kd.R_below (by (with_reducible repeat (first | apply Kd.R_alloc | apply Kd.R_drewN | apply Kd.R_drew)); exact HO663.out) hb); have n7_ := Aside0.mk (Kd.V_below (by (with_reducible repeat (first | apply Kd.V_alloc | apply Kd.V_drewN | apply Kd.V_drew)); exact HO667.out) hb); have n8_ := Aside0.mk (Kd.V_lower (Kd.V_mono (ok' := fun k_ => some k_ ≠ (.slice Ao13 t628.length co13 : Value).ownBlock ∧ some k_ ≠ (.slice Ao36 t637.length co36 : Value).ownBlock ∧ some k_ ≠ (v662 : Value).ownBlock) ho0 (fun k_ hk_ => ⟨Or.elim hk_ (fun hs_ => Or.elim hs_ (fun hs_ => ((HO_8.out).1 k_ hs_.symm).1.1) (fun hs_ => ((HO_9.out).1 k_ hs_.symm).1.1)) (fun hn_ => (Kd.fresh' (Kd.R_lt (by (with_reducible repeat (first | apply Kd.R_alloc | apply Kd.R_drewN | apply Kd.R_drew)); exact HO_7.out)) k_ hn_)), Or.elim hk_ (fun hs_ => Or.elim hs_ (fun hs_ => ((HO_8.out).1 k_ hs_.symm).1.2.2) (fun hs_ => ((HO_9.out).1 k_ hs_.symm).1.2.2)) (fun hn_ => (Kd.fresh' (Kd.R_lt (by (with_reducible repeat (first | apply Kd.R_alloc | apply Kd.R_drewN | apply Kd.R_drew)); exact HO_10.out)) k_ hn_)), Or.elim hk_ (fun hs_ => Or.elim hs_ (fun hs_ => ((HO_8.out).1 k_ hs_.symm).2) (fun hs_ => ((HO_9.out).1 k_ hs_.symm).2)) (fun hn_ => (Kd.fresh' (Kd.R_lt (by (with_reducible repeat (first | apply Kd.R_alloc | apply Kd.R_drewN | apply Kd.R_drew)); exact HO663.out)) k_ hn_))⟩)) (below_size (by repeat (first | (with_reducible first | exact HB.out | apply below_alloc | apply pw_below_drewN | apply below_drew1) | exact HB.out)))); have n9_ := Aside0.mk (below_step (by repeat (first | (with_reducible first | exact HB.out | apply below_alloc | apply pw_below_drewN | apply below_drew1) | exact HB.out)) hb); clear HO_7; clear HO_8; clear HO_9; clear HO_10; clear HO_14; clear HO_16; clear HO663; clear HO667; clear HB; have HO_7 := n0_; have HO_8 := n1_; have HO_9 := n2_; have HO_10 := n3_; have HO_14 := n4_; have HO_16 := n5_; have HO663 := n6_; have HO667 := n7_; have HO671 := n8_; have HB := n9_; clear n0_ n1_ n2_ n3_ n4_ n5_ n6_ n7_ n8_ n9_; (try clear hb); (try clear hb2); (try clear hk); (try clear hi); (try clear ho0)))
                (try simp only [Act.put, List.setIfInBounds_toArray, List.set_cons_zero, List.set_cons_succ])
                go_cut [162] (fun v162 wc => ∃ (kq : Nat) (x162_57 : Bool), v162 = .bool x162_57 ∧ Aside0 (fluxionlaw01_NatCoprime.j2 kq t634 t637 t665 t669 x162_57 = some r) ∧ Aside0 (kq ≤ kj34) ∧ Aside0 (Kd.R (Kd.int .u32) 47 wc w.heap.size (fun k_ => some k_ ≠ ((.slice Ao36 t637.length co36) : Value).ownBlock) (.slice Ao62 t634.length co62) t634) ∧ Aside0 (Kd.R (Kd.int .u32) 47 wc w.heap.size (fun k_ => some k_ ≠ ((.slice Ao62 t634.length co62) : Value).ownBlock) (.slice Ao36 t637.length co36) t637) ∧ Aside0 (Kd.V (Kd.int .u32) 47 wc w.heap.size (fun k_ => some k_ ≠ ((.slice Ao36 t637.length co36) : Value).ownBlock) v666 t665) ∧ Aside0 (Kd.V (Kd.int .u32) 47 wc w.heap.size (fun k_ => some k_ ≠ ((.slice Ao36 t637.length co36) : Value).ownBlock) v670 t669) ∧ Aside0 (Below w.heap.size w wc))
                case first => as_aux_lemma =>
                  have H := HC58.out
                  clear HC58
                  by_cases c65 : t664 = 0
                  · rw [if_pos c65] at H
                    have c65b0 : (t664 == 0) = true := beq_iff_eq.mpr c65
                    have c65b1 : (t664 != 0) = false := bne_eq_false_iff_eq.mpr c65
                    clear c65
                    (first | rw [c65b0] | (simp only [i64_w, i32_w]; rw [c65b0]) | skip)
                    obtain ⟨y673, hy673⟩ : ∃ y_ : List Int, y_ = (([1] : List Int)) := ⟨_, rfl⟩
                    replace H : ((fluxionlaw01_same.f kj34 t661 y673).bind fun t676 => (if t676 = true then (if t668 = true then (if t672 = true then (if (t665.length : Int) > 80 then none else (fluxionlaw01_NatCoprime.j2 kj34 t634 t637 t665 t669 (decide ((t669.length : Int) > 80)))) else none) else none) else none)) = some r := by first | (rw [hy673]; with_reducible exact H) | (have H2_ := (Option.bind_some _ _).symm.trans H; rw [hy673]; with_reducible exact H2_) | (have H2_ := (Option.bind_some _ _).symm.trans H; with_reducible exact H2_) | with_reducible exact H | (rw [hy673]; exact H) | exact H
                    have Ny673 := Aside0.mk hy673
                    clear hy673
                    replace H := Option.bind_eq_some_iff.mp H
                    obtain ⟨t676, A660, H⟩ := H
                    replace H : (if t676 = true then (if t668 = true then (if t672 = true then (if (t665.length : Int) > 80 then none else (fluxionlaw01_NatCoprime.j2 kj34 t634 t637 t665 t669 (decide ((t669.length : Int) > 80)))) else none) else none) else none) = some r := H
                    have A66 := Aside0.mk A660
                    clear A660
                    by_cases c67 : t676 = true
                    · subst c67
                      have H1 : (if t668 = true then (if t672 = true then (if (t665.length : Int) > 80 then none else (fluxionlaw01_NatCoprime.j2 kj34 t634 t637 t665 t669 (decide ((t669.length : Int) > 80)))) else none) else none) = some r := by rw [if_pos rfl] at H; exact H
                      clear H
                      have H := H1
                      clear H1
                      by_cases c68 : t668 = true
                      · subst c68
                        have H1 : (if t672 = true then (if (t665.length : Int) > 80 then none else (fluxionlaw01_NatCoprime.j2 kj34 t634 t637 t665 t669 (decide ((t669.length : Int) > 80)))) else none) = some r := by rw [if_pos rfl] at H; exact H
                        clear H
                        have H := H1
                        clear H1
                        by_cases c69 : t672 = true
                        · subst c69
                          have H1 : (if (t665.length : Int) > 80 then none else (fluxionlaw01_NatCoprime.j2 kj34 t634 t637 t665 t669 (decide ((t669.length : Int) > 80)))) = some r := by rw [if_pos rfl] at H; exact H
                          clear H
                          have H := H1
                          clear H1
                          by_cases c70 : (t665.length : Int) > 80
                          · rw [if_pos c70] at H
                            exact absurd H (by simp)
                          · rw [if_neg c70] at H
                            have c70b0 : decide (80 < (t665.length : Int)) = false := decide_eq_false c70
                            have c70b1 : decide (80 < t665.length) = false := decide_eq_false (by omega)
                            clear c70
                            have H' := Aside0.mk H
                            clear H
                            go_wp2_with (first | ((with_reducible refine gate_dst (N := 141) rfl ?_); (try (refine gate_guard (by rfl) ?_; dsimp only)); refine Kd.R_lit (Kd.int .u32) _ 47 ?hg (N := 141) ?hd (xs := ([1] : List Int)) (inner := [.int .u32 1]) (ok := fun _ => True) (okp := fun _ => True) ?hr ?hp (fun _ hk => hk) trivial (Below.refl _ _) (Nat.le_refl _) (by simp) ?_; (case hd => rfl); (case hg => rfl); (case hr => first | (go_simp; done) | (go_simp; rfl)); (case hp => exact (Reps.one (show Kd.M (Kd.int .u32) _ _ _ 1 [.int .u32 1] from rfl) (Reps.none _ _))); intro v674 w76 ho77 hb hg_ hnew_; clear hg_ hnew_; (first | rw [← Ny673.out] at ho77 | (simp only [Int.reduceToNat] at ho77; rw [← Ny673.out] at ho77)); have n0_ := Aside0.mk (Kd.R_elder' (by (with_reducible repeat (first | apply Kd.R_alloc | apply Kd.R_drewN | apply Kd.R_drew)); exact HO_7.out) (Kd.R_base ho77) hb); have n1_ := Aside0.mk (Kd.R_elder' (by (with_reducible repeat (first | apply Kd.R_alloc | apply Kd.R_drewN | apply Kd.R_drew)); exact HO_8.out) (Kd.R_base ho77) hb); have n2_ := Aside0.mk (Kd.R_elder' (by (with_reducible repeat (first | apply Kd.R_alloc | apply Kd.R_drewN | apply Kd.R_drew)); exact HO_9.out) (Kd.R_base ho77) hb); have n3_ := Aside0.mk (Kd.R_elder' (by (with_reducible repeat (first | apply Kd.R_alloc | apply Kd.R_drewN | apply Kd.R_drew)); exact HO_10.out) (Kd.R_base ho77) hb); have n4_ := Aside0.mk (Kd.V_elder' (by (with_reducible repeat (first | apply Kd.V_alloc | apply Kd.V_drewN | apply Kd.V_drew)); exact HO_14.out) (Kd.R_base ho77) hb); have n5_ := Aside0.mk (Kd.V_elder' (by (with_reducible repeat (first | apply Kd.V_alloc | apply Kd.V_drewN | apply Kd.V_drew)); exact HO_16.out) (Kd.R_base ho77) hb); have n6_ := Aside0.mk (Kd.R_elder' (by (with_reducible repeat (first | apply Kd.R_alloc | apply Kd.R_drewN | apply Kd.R_drew)); exact HO663.out) (Kd.R_base ho77) hb); have n7_ := Aside0.mk (Kd.V_elder' (by (with_reducible repeat (first | apply Kd.V_alloc | apply Kd.V_drewN | apply Kd.V_drew)); exact HO667.out) (Kd.R_base ho77) hb); have n8_ := Aside0.mk (Kd.V_elder' (by (with_reducible repeat (first | apply Kd.V_alloc | apply Kd.V_drewN | apply Kd.V_drew)); exact HO671.out) (Kd.R_base ho77) hb); have n9_ := Aside0.mk (Kd.R_lower (Kd.R_new' (Kd.R_new' (Kd.R_new' (Kd.R_new' (Kd.R_new' ho77 (Kd.R_lt (by (with_reducible repeat (first | apply Kd.R_alloc | apply Kd.R_drewN | apply Kd.R_drew)); exact HO_7.out))) (Kd.R_lt (by (with_reducible repeat (first | apply Kd.R_alloc | apply Kd.R_drewN | apply Kd.R_drew)); exact HO_8.out))) (Kd.R_lt (by (with_reducible repeat (first | apply Kd.R_alloc | apply Kd.R_drewN | apply Kd.R_drew)); exact HO_9.out))) (Kd.R_lt (by (with_reducible repeat (first | apply Kd.R_alloc | apply Kd.R_drewN | apply Kd.R_drew)); exact HO_10.out))) (Kd.R_lt (by (with_reducible repeat (first | apply Kd.R_alloc | apply Kd.R_drewN | apply Kd.R_drew)); exact HO663.out))) (below_size (by repeat (first | (with_reducible first | exact HB.out | apply below_alloc | apply pw_below_drewN | apply below_drew1) | exact HB.out)))); have n10_ := Aside0.mk (below_step (by repeat (first | (with_reducible first | exact HB.out | apply below_alloc | apply pw_below_drewN | apply below_drew1) | exact HB.out)) hb); clear HO_7; clear HO_8; clear HO_9; clear HO_10; clear HO_14; clear HO_16; clear HO663; clear HO667; clear HO671; clear HB; have HO_7 := n0_; have HO_8 := n1_; have HO_9 := n2_; have HO_10 := n3_; have HO_14 := n4_; have HO_16 := n5_; have HO663 := n6_; have HO667 := n7_; have HO671 := n8_; have HO675 := n9_; have HB := n10_; clear n0_ n1_ n2_ n3_ n4_ n5_ n6_ n7_ n8_ n9_ n10_; clear hb ho77; obtain ⟨Ao78, co78, eo78⟩ := Kd.R_slice HO663.out; subst eo78; obtain ⟨Ao79, co79, eo79⟩ := Kd.R_slice HO675.out; subst eo79) | (go_at_call 25; (with_reducible refine (fluxionlaw01_same.calls kj34 _ _ t661 _ _ y673 true _ ?side1 ?side2 ?side3 ?side4 A66.out).mono ?_); (case side1 => repeat (first | exact (Kd.R_reads' HO663.out).2.2 | (with_reducible refine Kd.C_alloc ?_ _) | (with_reducible refine Kd.C_drewN ?_ _) | (with_reducible refine Kd.C_drew ?_))); (case side2 => exact (Kd.R_reads' HO663.out).2.1); (case side3 => repeat (first | exact (Kd.R_reads' HO675.out).2.2 | (with_reducible refine Kd.C_alloc ?_ _) | (with_reducible refine Kd.C_drewN ?_ _) | (with_reducible refine Kd.C_drew ?_))); (case side4 => exact (Kd.R_reads' HO675.out).2.1); rintro e w' ⟨rfl, ⟨nd, rfl⟩⟩; obtain ⟨Ao80, co80, eo80⟩ := Kd.V_slice HO667.out; subst eo80; obtain ⟨Ao81, co81, eo81⟩ := Kd.V_slice HO671.out; subst eo81))
                            go_meet
                            case rel => exact ⟨_, (decide ((t669.length : Int) > 80)), (by first | rfl | (simp; done) | (simp [*]; done)), H', ⟨by have := HJ8.out; have := HJ34.out; first | omega | exact Nat.le_refl _⟩, ⟨by (with_reducible repeat (first | apply Kd.R_alloc | apply Kd.R_drewN | apply Kd.R_drew)); exact Kd.R_mono HO_9.out (fun _ hk => hk.1.1.2.2)⟩, ⟨by (with_reducible repeat (first | apply Kd.R_alloc | apply Kd.R_drewN | apply Kd.R_drew)); exact Kd.R_mono HO_10.out (fun _ hk => hk.1.1.2.2)⟩, ⟨by (with_reducible repeat (first | apply Kd.V_alloc | apply Kd.V_drewN | apply Kd.V_drew)); exact Kd.V_mono HO667.out (fun _ hk => hk.1.2.1)⟩, ⟨by (with_reducible repeat (first | apply Kd.V_alloc | apply Kd.V_drewN | apply Kd.V_drew)); exact Kd.V_mono HO671.out (fun _ hk => hk.1.2.1)⟩, ⟨by repeat (first | (with_reducible first | exact HB.out | apply below_alloc | apply pw_below_drewN | apply below_drew1) | exact HB.out)⟩⟩
                        · replace c69 := Bool.eq_false_iff.mpr c69
                          subst c69
                          have H1 : none = some r := by rw [if_neg (show ¬ (false = true) by decide)] at H; exact H
                          exact absurd H1 (by simp)
                      · replace c68 := Bool.eq_false_iff.mpr c68
                        subst c68
                        have H1 : none = some r := by rw [if_neg (show ¬ (false = true) by decide)] at H; exact H
                        exact absurd H1 (by simp)
                    · replace c67 := Bool.eq_false_iff.mpr c67
                      subst c67
                      have H1 : none = some r := by rw [if_neg (show ¬ (false = true) by decide)] at H; exact H
                      exact absurd H1 (by simp)
                  · rw [if_neg c65] at H
                    exact absurd H (by simp)
                case rest => as_aux_lemma =>
                  clear HC58
                  try clear c1
                  try clear c2
                  try clear p2
                  try clear c3
                  try clear c4
                  try clear c5
                  try clear c6
                  try clear p6
                  try clear c7
                  try clear c8
                  try clear c17
                  try clear c17b0
                  try clear c17b1
                  try clear c18
                  try clear c18b0
                  try clear c18b1
                  try clear c20
                  try clear c21
                  try clear c21b0
                  try clear c21b1
                  try clear c23
                  try clear c26
                  try clear c28
                  try clear c29
                  try clear c29b0
                  try clear c29b1
                  try clear c29b2
                  try clear c37
                  try clear c38
                  try clear c39
                  try clear c39b0
                  try clear c39b1
                  try clear c40
                  try clear c40b0
                  try clear c40b1
                  try clear c41
                  try clear c41b0
                  try clear c41b1
                  try clear c43
                  try clear c43b0
                  try clear c43b1
                  try clear c46
                  try clear c46b0
                  try clear c46b1
                  try clear c54
                  try clear p64
                  try clear c65
                  try clear c65b0
                  try clear c65b1
                  try clear c67
                  try clear c68
                  try clear c69
                  try clear c70
                  try clear c70b0
                  try clear c70b1
                  try clear p2
                  try clear p6
                  obtain ⟨kq, x162_57, rfl, HA, HJ57, HO_9, HO_10, HO_20, HO_22, HB⟩ := hcut
                  cases kq with
                  | zero => exact absurd HA.out (by simp [fluxionlaw01_NatCoprime.j2])
                  | succ kj57 =>
                    have H := HA.out
                    clear HA
                    simp only [fluxionlaw01_NatCoprime.j2] at H
                    by_cases c94 : x162_57 = true
                    · subst c94
                      have H1 : none = some r := by rw [if_pos rfl] at H; exact H
                      exact absurd H1 (by simp)
                    · replace c94 := Bool.eq_false_iff.mpr c94
                      subst c94
                      have H1 : ((nat_Gcd.f kj57 t665 t669).bind fun bt677 => ((fluxionlaw01_product.f kj57 t637 t634).bind fun bt681 => (if bt677.2 = 0 then (if bt681.2 = true then ((fluxionlaw01_same.f kj57 bt677.1 bt681.1).bind fun t685 => (if t685 = true then ((fluxionlaw01_alive.f).bind fun t686 => (some t686)) else none)) else none) else none))) = some r := by rw [if_neg (show ¬ (false = true) by decide)] at H; exact H
                      clear H
                      have H := H1
                      clear H1
                      replace H := Option.bind_eq_some_iff.mp H
                      obtain ⟨⟨t677, t680⟩, A950, H⟩ := H
                      replace H : ((fluxionlaw01_product.f kj57 t637 t634).bind fun bt681 => (if t680 = 0 then (if bt681.2 = true then ((fluxionlaw01_same.f kj57 t677 bt681.1).bind fun t685 => (if t685 = true then ((fluxionlaw01_alive.f).bind fun t686 => (some t686)) else none)) else none) else none)) = some r := H
                      have A95 := Aside0.mk A950
                      clear A950
                      replace H := Option.bind_eq_some_iff.mp H
                      obtain ⟨⟨t681, t684⟩, A960, H⟩ := H
                      replace H : (if t680 = 0 then (if t684 = true then ((fluxionlaw01_same.f kj57 t677 t681).bind fun t685 => (if t685 = true then ((fluxionlaw01_alive.f).bind fun t686 => (some t686)) else none)) else none) else none) = some r := H
                      have A96 := Aside0.mk A960
                      clear A960
                      by_cases c97 : t680 = 0
                      · rw [if_pos c97] at H
                        have c97b0 : (t680 == 0) = true := beq_iff_eq.mpr c97
                        have c97b1 : (t680 != 0) = false := bne_eq_false_iff_eq.mpr c97
                        clear c97
                        by_cases c98 : t684 = true
                        · subst c98
                          have H1 : ((fluxionlaw01_same.f kj57 t677 t681).bind fun t685 => (if t685 = true then ((fluxionlaw01_alive.f).bind fun t686 => (some t686)) else none)) = some r := by rw [if_pos rfl] at H; exact H
                          clear H
                          have H := H1
                          clear H1
                          replace H := Option.bind_eq_some_iff.mp H
                          obtain ⟨t685, A990, H⟩ := H
                          replace H : (if t685 = true then ((fluxionlaw01_alive.f).bind fun t686 => (some t686)) else none) = some r := H
                          have A99 := Aside0.mk A990
                          clear A990
                          by_cases c100 : t685 = true
                          · subst c100
                            have H1 : ((fluxionlaw01_alive.f).bind fun t686 => (some t686)) = some r := by rw [if_pos rfl] at H; exact H
                            clear H
                            have H := H1
                            clear H1
                            replace H := Option.bind_eq_some_iff.mp H
                            obtain ⟨t686, A1010, H⟩ := H
                            replace H : (some t686) = some r := H
                            have A101 := Aside0.mk A1010
                            clear A1010
                            obtain rfl := Option.some.inj H
                            obtain ⟨Ao102, co102, eo102⟩ := Kd.V_slice HO_20.out
                            subst eo102
                            obtain ⟨Ao103, co103, eo103⟩ := Kd.V_slice HO_22.out
                            subst eo103
                            go_wp2_with (first | ((with_reducible refine gate_callee (f := 26) rfl ?_); refine goesL_ (some 166) rfl rfl Try.func26 (by kernel_rfl) rfl #[.slice Ao102 t665.length co102, .slice Ao103 t669.length co103] rfl (by (try simp only [List.map_toArray, List.map_cons, List.map_nil]); first | done | rfl | (simp only [List.length_drop, List.length_take]; rfl)) ?_; (with_reducible refine (nat_Gcd.calls kj57 (fun k_ => some k_ ≠ (.slice Ao36 t637.length co36 : Value).ownBlock) _ _ t665 (fun k_ => some k_ ≠ (.slice Ao36 t637.length co36 : Value).ownBlock) _ _ t669 t677 t680 _ ?side1 ?side2 A95.out).mono ?_); (case side1 => exact HO_20.out); (case side2 => exact HO_22.out); rintro e w104 ⟨v678, rfl, ho0, hb⟩; refine ⟨_, rfl, ?_⟩; have n0_ := Aside0.mk (Kd.R_elder' (by (with_reducible repeat (first | apply Kd.R_alloc | apply Kd.R_drewN | apply Kd.R_drew)); exact HO_9.out) (Kd.R_base ho0) hb); have n1_ := Aside0.mk (Kd.R_elder' (by (with_reducible repeat (first | apply Kd.R_alloc | apply Kd.R_drewN | apply Kd.R_drew)); exact HO_10.out) (Kd.R_base ho0) hb); have n2_ := Aside0.mk (Kd.V_elder' (by (with_reducible repeat (first | apply Kd.V_alloc | apply Kd.V_drewN | apply Kd.V_drew)); exact HO_20.out) (Kd.R_base ho0) hb); have n3_ := Aside0.mk (Kd.V_elder' (by (with_reducible repeat (first | apply Kd.V_alloc | apply Kd.V_drewN | apply Kd.V_drew)); exact HO_22.out) (Kd.R_base ho0) hb); have n4_ := Aside0.mk (Kd.R_lower (Kd.R_new' (Kd.R_new' (Kd.R_mono (ok' := fun k_ => True) ho0 (fun _ hk_ => trivial)) (Kd.R_lt (by (with_reducible repeat (first | apply Kd.R_alloc | apply Kd.R_drewN | apply Kd.R_drew)); exact HO_9.out))) (Kd.R_lt (by (with_reducible repeat (first | apply Kd.R_alloc | apply Kd.R_drewN | apply Kd.R_drew)); exact HO_10.out))) (below_size (by repeat (first | (with_reducible first | exact HB.out | apply below_alloc | apply pw_below_drewN | apply below_drew1) | exact HB.out)))); have n5_ := Aside0.mk (below_step (by repeat (first | (with_reducible first | exact HB.out | apply below_alloc | apply pw_below_drewN | apply below_drew1) | exact HB.out)) hb); clear HO_9; clear HO_10; clear HO_20; clear HO_22; clear HB; have HO_9 := n0_; have HO_10 := n1_; have HO_20 := n2_; have HO_22 := n3_; have HO679 := n4_; have HB := n5_; clear n0_ n1_ n2_ n3_ n4_ n5_; (try clear hb); (try clear hb2); (try clear hk); (try clear hi); (try clear ho0)) | ((with_reducible refine gate_callee (f := 38) rfl ?_); refine goesL_ (some 172) rfl rfl Try.func38 (by kernel_rfl) rfl #[.slice Ao36 t637.length co36, .slice Ao62 t634.length co62] rfl (by (try simp only [List.map_toArray, List.map_cons, List.map_nil]); first | done | rfl | (simp only [List.length_drop, List.length_take]; rfl)) ?_; (with_reducible refine (fluxionlaw01_product.calls kj57 (fun k_ => some k_ = (.slice Ao36 t637.length co36 : Value).ownBlock) _ _ t637 (fun k_ => some k_ = (.slice Ao62 t634.length co62 : Value).ownBlock) _ _ t634 t681 true _ ?side1 ?side2 A96.out).mono ?_); (case side1 => exact Kd.R_V (Kd.R_tight rfl (HO_10.out))); (case side2 => exact Kd.R_V (Kd.R_tight rfl (HO_9.out))); rintro e w105 ⟨v682, rfl, ho0, hb⟩; refine ⟨_, rfl, ?_⟩; have n0_ := Aside0.mk (Kd.R_below (by (with_reducible repeat (first | apply Kd.R_alloc | apply Kd.R_drewN | apply Kd.R_drew)); exact HO_9.out) hb); have n1_ := Aside0.mk (Kd.R_below (by (with_reducible repeat (first | apply Kd.R_alloc | apply Kd.R_drewN | apply Kd.R_drew)); exact HO_10.out) hb); have n2_ := Aside0.mk (Kd.V_below (by (with_reducible repeat (first | apply Kd.V_alloc | apply Kd.V_drewN | apply Kd.V_drew)); exact HO_20.out) hb); have n3_ := Aside0.mk (Kd.V_below (by (with_reducible repeat (first | apply Kd.V_alloc | apply Kd.V_drewN | apply Kd.V_drew)); exact HO_22.out) hb); have n4_ := Aside0.mk (Kd.R_below (by (with_reducible repeat (first | apply Kd.R_alloc | apply Kd.R_drewN | apply Kd.R_drew)); exact HO679.out) hb); have n5_ := Aside0.mk (Kd.V_lower (Kd.V_mono (ok' := fun k_ => some k_ ≠ (v678 : Value).ownBlock) ho0 (fun k_ hk_ => Or.elim hk_ (fun hs_ => Or.elim hs_ (fun hs_ => ((HO_10.out).1 k_ hs_.symm).2) (fun hs_ => ((HO_9.out).1 k_ hs_.symm).2)) (fun hn_ => (Kd.fresh' (Kd.R_lt (by (with_reducible repeat (first | apply Kd.R_alloc | apply Kd.R_drewN | apply Kd.R_drew)); exact HO679.out)) k_ hn_)))) (below_size (by repeat (first | (with_reducible first | exact HB.out | apply below_alloc | apply pw_below_drewN | apply below_drew1) | exact HB.out)))); have n6_ := Aside0.mk (below_step (by repeat (first | (with_reducible first | exact HB.out | apply below_alloc | apply pw_below_drewN | apply below_drew1) | exact HB.out)) hb); clear HO_9; clear HO_10; clear HO_20; clear HO_22; clear HO679; clear HB; have HO_9 := n0_; have HO_10 := n1_; have HO_20 := n2_; have HO_22 := n3_; have HO679 := n4_; have HO683 := n5_; have HB := n6_; clear n0_ n1_ n2_ n3_ n4_ n5_ n6_; (try clear hb); (try clear hb2); (try clear hk); (try clear hi); (try clear ho0); obtain ⟨Ao106, co106, eo106⟩ := Kd.R_slice HO679.out; subst eo106; obtain ⟨Ao107, co107, eo107⟩ := Kd.V_slice HO683.out; subst eo107) | (go_at_call 25; (with_reducible refine (fluxionlaw01_same.calls kj57 _ _ t677 _ _ t681 true _ ?side1 ?side2 ?side3 ?side4 A99.out).mono ?_); (case side1 => repeat (first | exact (Kd.R_reads' HO679.out).2.2 | (with_reducible refine Kd.C_alloc ?_ _) | (with_reducible refine Kd.C_drewN ?_ _) | (with_reducible refine Kd.C_drew ?_))); (case side2 => exact (Kd.R_reads' HO679.out).2.1); (case side3 => repeat (first | exact (Kd.V_reads' HO683.out).2.2 | (with_reducible refine Kd.C_alloc ?_ _) | (with_reducible refine Kd.C_drewN ?_ _) | (with_reducible refine Kd.C_drew ?_))); (case side4 => exact (Kd.V_reads' HO683.out).2.1); rintro e w' ⟨rfl, ⟨nd, rfl⟩⟩) | (go_at_call 23; (with_reducible refine (fluxionlaw01_alive.calls  t686 _ A101.out).mono ?_); rintro e w108 ⟨rfl, hb⟩; have n0_ := Aside0.mk (Kd.R_below (by (with_reducible repeat (first | apply Kd.R_alloc | apply Kd.R_drewN | apply Kd.R_drew)); exact HO_9.out) hb); have n1_ := Aside0.mk (Kd.R_below (by (with_reducible repeat (first | apply Kd.R_alloc | apply Kd.R_drewN | apply Kd.R_drew)); exact HO_10.out) hb); have n2_ := Aside0.mk (Kd.V_below (by (with_reducible repeat (first | apply Kd.V_alloc | apply Kd.V_drewN | apply Kd.V_drew)); exact HO_20.out) hb); have n3_ := Aside0.mk (Kd.V_below (by (with_reducible repeat (first | apply Kd.V_alloc | apply Kd.V_drewN | apply Kd.V_drew)); exact HO_22.out) hb); have n4_ := Aside0.mk (Kd.R_below (by (with_reducible repeat (first | apply Kd.R_alloc | apply Kd.R_drewN | apply Kd.R_drew)); exact HO679.out) hb); have n5_ := Aside0.mk (Kd.V_below (by (with_reducible repeat (first | apply Kd.V_alloc | apply Kd.V_drewN | apply Kd.V_drew)); exact HO683.out) hb); have n6_ := Aside0.mk (below_step (by repeat (first | (with_reducible first | exact HB.out | apply below_alloc | apply pw_below_drewN | apply below_drew1) | exact HB.out)) hb); clear HO_9; clear HO_10; clear HO_20; clear HO_22; clear HO679; clear HO683; clear HB; have HO_9 := n0_; have HO_10 := n1_; have HO_20 := n2_; have HO_22 := n3_; have HO679 := n4_; have HO683 := n5_; have HB := n6_; clear n0_ n1_ n2_ n3_ n4_ n5_ n6_; (try clear hb); (try clear hb2); (try clear hk); (try clear hi)))
                            go_ret
                            exact ⟨by first | rfl | (simp [errW_none, errW_some] <;> rfl) | (simp [*, errW_none, errW_some] <;> rfl), by repeat (first | (with_reducible first | exact HB.out | apply below_alloc | apply pw_below_drewN | apply below_drew1) | exact HB.out)⟩
                          · replace c100 := Bool.eq_false_iff.mpr c100
                            subst c100
                            have H1 : none = some r := by rw [if_neg (show ¬ (false = true) by decide)] at H; exact H
                            exact absurd H1 (by simp)
                        · replace c98 := Bool.eq_false_iff.mpr c98
                          subst c98
                          have H1 : none = some r := by rw [if_neg (show ¬ (false = true) by decide)] at H; exact H
                          exact absurd H1 (by simp)
                      · rw [if_neg c97] at H
                        exact absurd H (by simp)
/-- THE ONE PURE STATEMENT of fluxionlaw01_NatCoprime: yours. -/
theorem fluxionlaw01_NatCoprime.walk (P : fluxionlaw01_NatCoprime.Pure) (a0 : Option Addr) (len0 cap0 : Nat) (z0 : List Int) (a1 : Option Addr) (len1 cap1 : Nat) (z1 : List Int) (a2 : Option Addr) (len2 cap2 : Nat) (z2 : List Int) (w : World) (w0 : (a0 = none ∧ len0 = 0 ∧ cap0 = 0 ∧ z0 = []) ∨ ∃ x, a0 = some x ∧ len0 ≤ cap0 ∧ cap0 ≤ maxLen ∧ z0.length = cap0 ∧ (∀ i, i < z0.length → w.cell? (x.add i) = some (.int .u32 (z0.getD i 0))) ∧ ∀ n ∈ z0, (Lit.int .u32 n).wf = true) (y0 : len0 * 4 ≤ 140737488351232) (w1 : (a1 = none ∧ len1 = 0 ∧ cap1 = 0 ∧ z1 = []) ∨ ∃ x, a1 = some x ∧ len1 ≤ cap1 ∧ cap1 ≤ maxLen ∧ z1.length = cap1 ∧ (∀ i, i < z1.length → w.cell? (x.add i) = some (.int .u32 (z1.getD i 0))) ∧ ∀ n ∈ z1, (Lit.int .u32 n).wf = true) (y1 : len1 * 4 ≤ 140737488351232) (w2 : (a2 = none ∧ len2 = 0 ∧ cap2 = 0 ∧ z2 = []) ∨ ∃ x, a2 = some x ∧ len2 ≤ cap2 ∧ cap2 ≤ maxLen ∧ z2.length = cap2 ∧ (∀ i, i < z2.length → w.cell? (x.add i) = some (.int .u32 (z2.getD i 0))) ∧ ∀ n ∈ z2, (Lit.int .u32 n).wf = true) (y2 : len2 * 4 ≤ 140737488351232) :
    Calls Try.prog 8 #[.slice a0 len0 cap0, .slice a1 len1 cap1, .slice a2 len2 cap2] w fun e w' => e = .returned (.bool true) ∧ Below w.heap.size w w' := by
  obtain ⟨l0, rfl, hr0, hm0, hw0, hc0⟩ := ReadsInt.ofRowC w0
  obtain ⟨l1, rfl, hr1, hm1, hw1, hc1⟩ := ReadsInt.ofRowC w1
  obtain ⟨l2, rfl, hr2, hm2, hw2, hc2⟩ := ReadsInt.ofRowC w2
  obtain ⟨k, h⟩ := P l0 l1 l2 hm0 y0 hw0 hm1 y1 hw1 hm2 y2 hw2
  refine (fluxionlaw01_NatCoprime.calls k _ _ l0 _ _ l1 _ _ l2 true w (Kd.C_of_reads (d := (0 : Int)) (h1 := fun _ => rfl) hr0) hc0 (Kd.C_of_reads (d := (0 : Int)) (h1 := fun _ => rfl) hr1) hc1 (Kd.C_of_reads (d := (0 : Int)) (h1 := fun _ => rfl) hr2) hc2 h).mono ?_
  rintro e w' ⟨rfl, hd⟩
  exact ⟨rfl, hd⟩

end Go.Proofs.Ytceglknbonfdeaa.PNat
