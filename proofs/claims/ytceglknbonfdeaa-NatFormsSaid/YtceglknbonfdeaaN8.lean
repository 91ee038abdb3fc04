/- The reference's own functions over digits: cutting zeros, comparing, sums, differences, products. No program. -/
import Derived.Test.YtceglknbonfdeaaN7
import Derived.Test.YtceglknbonfdeaaDB
namespace Go.Proofs.Ytceglknbonfdeaa.PNat
open Go.RowKit Go.Proofs.YtceglknbonfdeaaW.PrintWords Go.Proofs.YtceglknbonfdeaaW.PrintLast Go.Proofs.YtceglknbonfdeaaW.PrintMore
set_option linter.unusedVariables false

/-! ### cutting zeros, one digit -/
theorem take_snoc {x : List Int} {n : Nat} (h : n < x.length) : x.take (n + 1) = x.take n ++ [dg x n] := by
  rw [dg_lt h]
  exact (List.take_append_getElem h).symm
theorem rshort_loop (x : List Int) (hs : x.length ≤ 1000000) (n : Nat) (hn : n ≤ x.length) : Ev (fun k => fluxionref01_short.l0 k x (n : Int)) (tr (x.take n)) := by
  induction n with
  | zero =>
    refine ev_now fun k => ?_
    simp only [fluxionref01_short.l0]
    rw [if_neg (by omega), if_pos (by omega), if_pos (by omega)]
    rfl
  | succ n ih =>
    have c1 : (n : Int) < (x.length : Int) := by omega
    have c2 : n ≤ 2000000 := by omega
    have c3 : ((n + 1 : Nat) : Int) ≤ (x.length : Int) := by omega
    rw [take_snoc (by omega)]
    by_cases hd : dg x n = 0
    · rw [hd, tr_snoc_zero]
      refine Ev.step (fun k => ?_) (ih (by omega))
      simp only [fluxionref01_short.l0]
      rw [if_pos (by omega), w64q n c2, if_pos (by omega), if_pos c1, rd_nat, if_pos hd]
    · rw [tr_snoc _ hd, ← take_snoc (by omega)]
      refine ev_now fun k => ?_
      simp only [fluxionref01_short.l0]
      rw [if_pos (by omega), w64q n c2, if_pos (by omega), if_pos c1, rd_nat, if_neg hd, if_pos (by omega), if_pos c3, Int.toNat_natCast]
theorem rshort_f (x : List Int) (hs : x.length ≤ 1000000) : Ev (fun k => fluxionref01_short.f k x) (tr x) := by
  have h := rshort_loop x hs x.length (Nat.le_refl _)
  rwa [List.take_length] at h
theorem rshort_num {x : List Int} (hd : Dig x) (hs : x.length ≤ 1000000) {v : Int} (hv : val x = v) : Ev (fun k => (fluxionref01_short.f k x).bind fun t => some t) (num v) := by
  rw [← tr_num hd hv]
  exact Ev.bind (rshort_f x hs) (ev_some _)
theorem digit_eq {l : List Int} (h : Dig l) (i : Nat) : fluxionref01_digit.f l (i : Int) = some (dg l i) := by
  unfold fluxionref01_digit.f
  by_cases c : i < l.length
  · have := dg_dig h i
    rw [if_pos (by omega), if_pos (by omega), rd_nat, u64_eq (by omega) (by omega)]
  · rw [if_neg (by omega), dg_of_ge (by omega)]

/-! ### products -/
theorem val_mul_lt {x y : List Int} (hx : Dig x) (hy : Dig y) : val x * val y < pw (x.length + y.length) := by
  have h1 := val_lt hx
  have h2 := val_lt hy
  have h := (mul_bound (A := pw x.length - 1) (C := pw y.length - 1) (val_nonneg hx) (by omega) (val_nonneg hy) (by omega)).2
  have h3 := pw_pos x.length
  have h4 := pw_pos y.length
  have e : (pw x.length - 1) * (pw y.length - 1) = pw x.length * pw y.length - pw x.length - pw y.length + 1 := by grind
  rw [pw_add]
  omega
theorem rmul_inner {y : List Int} (hy : Dig y) (x : List Int) (i : Nat) (hx : Dig x) (hi : i < x.length) (hs : x.length + y.length ≤ 1000000) (r : List Int)
    (next : ∀ out : List Int, out.length = x.length + y.length → Dig out → (∀ j, i + 1 + y.length ≤ j → dg out j = 0) → val out = lo x (i + 1) * val y → Ev (fun k => fluxionref01_Mul.l0 k x y out ((i + 1 : Nat) : Int)) r) (d : Nat) :
    ∀ (q : Nat) (out : List Int) (c : Int), y.length = q + d → out.length = x.length + y.length → Dig out → 0 ≤ c → c < 4294967296 → (∀ j, i + y.length ≤ j → dg out j = 0) → val out + c * pw (i + q) = lo x i * val y + pw i * dg x i * lo y q →
    Ev (fun k => fluxionref01_Mul.l1 k x y out (i : Int) c (q : Int)) r := by
  have hx1 := dg_dig hx i
  have hi1 : (i : Int) < (x.length : Int) := by omega
  have hi2 : i ≤ 2000000 := by omega
  induction d with
  | zero =>
    intro q out c hq hl hd hc0 hc1 hz hv
    have hq0 : q = y.length := by omega
    subst hq0
    have hlt : i + y.length < out.length := by omega
    have hlt2 : ((i + y.length : Nat) : Int) < (out.length : Int) := by omega
    have hz0 := hz (i + y.length) (Nat.le_refl _)
    rw [lo_all (Nat.le_refl _)] at hv
    by_cases h0 : 0 < c
    · have hn := next (out.set (i + y.length) c) (by rw [List.length_set]; exact hl) (dig_set hd ⟨hc0, hc1⟩) (fun j hj => by rw [dg_set c j hlt, if_neg (by omega)]; exact hz j (by omega)) (by
        rw [val_set c hlt, hz0, lo_succ]
        grind)
      have c4 : y.length ≤ 2000000 := by omega
      refine Ev.step (f := fun k => fluxionref01_Mul.l1 k x y (out.set (i + y.length) c) (i : Int) 0 ((y.length + 1 : Nat) : Int)) (fun k => ?_) (Ev.step (fun k => ?_) hn)
      · simp only [fluxionref01_Mul.l1]
        rw [if_neg (by omega), if_pos (show c > 0 from h0), w64a _ _ (by omega), if_pos (by omega), if_pos hlt2, if_pos (by omega), if_pos hi1, digit_eq hy, Option.bind_some, dg_of_ge (Nat.le_refl _), Int.mul_zero, rd_nat, hz0,
          u64_eq (x := 0) (by decide) (by decide), Int.add_zero, u64_eq (x := 0) (by decide) (by decide), Int.zero_add, u64_eq hc0 (by omega), Int.emod_eq_of_lt hc0 hc1, Int.ediv_eq_zero_of_lt hc0 hc1, Int.toNat_natCast, w64s _ c4]
      · simp only [fluxionref01_Mul.l1]
        rw [if_neg (by omega), if_neg (by decide), w64s i hi2]
    · obtain rfl : c = 0 := by omega
      have hn := next out hl hd (fun j hj => hz j (by omega)) (by rw [lo_succ]; grind)
      refine Ev.step (fun k => ?_) hn
      simp only [fluxionref01_Mul.l1]
      rw [if_neg (by omega), if_neg (by decide), w64s i hi2]
  | succ d ih =>
    intro q out c hq hl hd hc0 hc1 hz hv
    have hlt : i + q < out.length := by omega
    have h2 := dg_dig hy q
    have h3 := dg_dig hd (i + q)
    obtain ⟨p0, p1⟩ := step_bound ⟨hc0, hc1⟩ hx1 h2 h3
    have hn := fun (s : Int) (hs : s = dg out (i + q) + dg x i * dg y q + c) (h : (0 ≤ s % 4294967296 ∧ s % 4294967296 < 4294967296) ∧ 0 ≤ s / 4294967296 ∧ s / 4294967296 < 4294967296 ∧ s = s % 4294967296 + 4294967296 * (s / 4294967296)) =>
      ih (q + 1) (out.set (i + q) (s % 4294967296)) (s / 4294967296) (by omega) (by rw [List.length_set]; exact hl) (dig_set hd h.1) h.2.1 h.2.2.1 (fun j hj => by rw [dg_set _ j hlt, if_neg (by omega)]; exact hz j hj) (by
        rw [val_set _ hlt, lo_succ, show i + (q + 1) = (i + q) + 1 by omega, pw_succ, pw_add i q]
        rw [pw_add i q] at hv
        have h4 := h.2.2.2
        have h5 : pw i * pw q * s = pw i * pw q * (s % 4294967296) + 4294967296 * (pw i * pw q) * (s / 4294967296) := by
          conv => lhs; rw [h4]
          grind
        rw [hs] at h5
        grind)
    have hidx : (q : Int) < (y.length : Int) := by omega
    have hidx2 : ((i + q : Nat) : Int) < (out.length : Int) := by omega
    have hidx3 : i + q ≤ 2000000 := by omega
    have hidx4 : q ≤ 2000000 := by omega
    refine Ev.step (fun k => ?_) (hn (dg out (i + q) + dg x i * dg y q + c) rfl (split64 (by omega) (by omega)))
    simp only [fluxionref01_Mul.l1]
    rw [if_pos hidx, w64a _ _ hidx3, if_pos (by omega), if_pos hidx2, if_pos (by omega), if_pos hi1, digit_eq hy, Option.bind_some, Int.toNat_natCast, rd_nat, rd_nat, u64_eq hx1.1 (by omega), u64_eq p0 (by omega), u64_eq h3.1 (by omega),
      u64_eq (x := dg out (i + q) + dg x i * dg y q) (by omega) (by omega), u64_eq (x := dg out (i + q) + dg x i * dg y q + c) (by omega) (by omega), w64s q hidx4]
theorem rmul_outer {x y : List Int} (hx : Dig x) (hy : Dig y) (hs : x.length + y.length ≤ 1000000) (d : Nat) : ∀ (i : Nat) (out : List Int), x.length = i + d → out.length = x.length + y.length → Dig out → (∀ j, i + y.length ≤ j → dg out j = 0) → val out = lo x i * val y →
    Ev (fun k => fluxionref01_Mul.l0 k x y out (i : Int)) (num (val x * val y)) := by
  induction d with
  | zero =>
    intro i out hi hl hd hz hv
    rw [lo_all (by omega)] at hv
    refine Ev.step (fun k => ?_) (rshort_num hd (by omega) hv)
    simp only [fluxionref01_Mul.l0]
    rw [if_neg (by omega)]
  | succ d ih =>
    intro i out hi hl hd hz hv
    have h := rmul_inner hy x i hx (by omega) hs _ (fun out h1 h2 h3 h4 => ih (i + 1) out (by omega) h1 h2 h3 h4) y.length 0 out 0 (by omega) hl hd (by omega) (by omega) hz (by rw [lo_zero, hv]; grind)
    refine Ev.step (fun k => ?_) h
    simp only [fluxionref01_Mul.l0]
    rw [if_pos (by omega)]
    rfl
theorem rmul_f {x y : List Int} (hx : Dig x) (hy : Dig y) (hs : x.length + y.length ≤ 1000000) : Ev (fun k => fluxionref01_Mul.f k x y) (num (val x * val y)) := by
  have h := rmul_outer hx hy hs x.length 0 (List.replicate (x.length + y.length) 0) (by omega) (by simp) (dig_replicate _) (fun j _ => dg_replicate _ j) (by rw [val_replicate, lo_zero, Int.zero_mul])
  refine ev_eq (fun k => ?_) h
  unfold fluxionref01_Mul.f
  rw [w64a _ _ (by omega), if_pos (by omega), Int.toNat_natCast, if_pos (by omega)]
  rfl

/-! ### comparing -/
theorem rcompare_loop {x y : List Int} (hx : Dig x) (hy : Dig y) (hl : x.length = y.length) (hs : x.length ≤ 1000000) (n : Nat) (hn : n ≤ x.length) : Ev (fun k => fluxionref01_Compare.l0 k x y ((n : Int) - 1)) (cmpI (lo x n) (lo y n)) := by
  induction n with
  | zero =>
    rw [lo_zero, lo_zero, cmpI_eq]
    refine ev_now fun k => ?_
    simp only [fluxionref01_Compare.l0]
    rw [if_neg (by omega)]
  | succ n ih =>
    rw [cmp_step hx hy n]
    have c1 : (n : Int) < (x.length : Int) := by omega
    have c2 : (n : Int) < (y.length : Int) := by omega
    have c3 : n ≤ 2000000 := by omega
    by_cases he : dg x n = dg y n
    · rw [if_pos he]
      refine Ev.step (fun k => ?_) (ih (by omega))
      simp only [fluxionref01_Compare.l0]
      rw [w64r n c3, pred_succ, if_pos (by omega), if_pos (by omega), if_pos c1, if_pos c2, rd_nat, rd_nat, he, if_neg (by omega), if_neg (by omega)]
    · rw [if_neg he]
      refine ev_now fun k => ?_
      simp only [fluxionref01_Compare.l0]
      rw [pred_succ, if_pos (by omega), if_pos (by omega), if_pos c1, if_pos c2, rd_nat, rd_nat]
      by_cases hlt : dg x n < dg y n
      · rw [if_pos hlt, if_pos hlt]
      · rw [if_neg hlt, if_neg hlt, if_pos (by omega)]
theorem rcompare_f {x y : List Int} (hx : Canon x) (hy : Canon y) (hs : x.length ≤ 1000000) : Ev (fun k => fluxionref01_Compare.f k x y) (cmpI (val x) (val y)) := by
  unfold fluxionref01_Compare.f
  by_cases h : x.length = y.length
  · have := rcompare_loop hx.1 hy.1 h hs x.length (Nat.le_refl _)
    rw [lo_all (Nat.le_refl _), lo_all (by omega)] at this
    refine ev_if (by omega) (ev_eq (fun k => ?_) this)
    rw [w64p _ (by omega)]
  · refine ev_else (by omega) ?_
    by_cases h1 : x.length < y.length
    · rw [cmpI_lt (len_lt hx.1 hy h1)]
      exact ev_if (by omega) (ev_some _)
    · rw [cmpI_gt (len_lt hy.1 hx (by omega))]
      exact ev_else (by omega) (ev_some _)

/-! ### sums -/
theorem radd_loop {x y : List Int} (hx : Dig x) (hy : Dig y) (m : Nat) (hm : m ≤ 900000) (hxm : x.length < m) (hym : y.length < m) (d : Nat) : ∀ (i : Nat) (out : List Int) (c : Int), m = i + d → out.length = m → Dig out → 0 ≤ c → c ≤ 1 → hi out i = 0 → val out + pw i * c = lo x i + lo y i →
    Ev (fun k => fluxionref01_Add.l0 k x y out c (i : Int)) (num (val x + val y)) := by
  induction d with
  | zero =>
    intro i out c hi hl hd hc0 hc1 hz hv
    obtain rfl : m = i := by omega
    rw [lo_all (by omega), lo_all (by omega)] at hv
    have e1 := val_lt hx
    have e2 := val_lt hy
    have e3 : pw x.length * 4294967296 ≤ pw m := by
      have := pw_mono (a := x.length + 1) (b := m) hxm
      rw [pw_succ] at this
      omega
    have e4 : pw y.length * 4294967296 ≤ pw m := by
      have := pw_mono (a := y.length + 1) (b := m) hym
      rw [pw_succ] at this
      omega
    have e5 := val_nonneg hd
    have e6 := pw_pos m
    obtain rfl : c = 0 := by
      rcases Int.lt_or_le 0 c with h | h
      · obtain rfl : c = 1 := by omega
        omega
      · omega
    refine Ev.step (fun k => ?_) (rshort_num hd (by omega) (by omega))
    simp only [fluxionref01_Add.l0]
    rw [if_neg (by omega)]
  | succ d ih =>
    intro i out c hi hl hd hc0 hc1 hz hv
    have h1 := dg_dig hx i
    have h2 := dg_dig hy i
    have hlt : i < out.length := by omega
    have c1 : (i : Int) < (out.length : Int) := by omega
    have c2 : i ≤ 2000000 := by omega
    have hs0 := hi_step out i
    have hn := hi_nonneg hd (i + 1)
    have h3 := dg_dig hd i
    have hz1 : dg out i = 0 := by omega
    have hz2 : PNat.hi out (i + 1) = 0 := by omega
    refine Ev.step (f := fun k => fluxionref01_Add.l0 k x y (out.set i ((dg x i + dg y i + c) % 4294967296)) ((dg x i + dg y i + c) / 4294967296) ((i + 1 : Nat) : Int)) (fun k => ?_) ?_
    · simp only [fluxionref01_Add.l0]
      rw [if_pos c1, digit_eq hx, Option.bind_some, digit_eq hy, Option.bind_some, if_pos (by omega), w64s i c2, u64_eq (x := dg x i + dg y i) (by omega) (by omega), u64_eq (x := dg x i + dg y i + c) (by omega) (by omega), Int.toNat_natCast]
    · generalize hs : dg x i + dg y i + c = s at *
      refine ih (i + 1) _ _ (by omega) (by rw [List.length_set]; exact hl) (dig_set hd (by omega)) (by omega) (by omega) (by rw [hi_set_lt _ (Nat.lt_succ_self _)]; exact hz2) ?_
      rw [val_set _ hlt, hz1, pw_succ, lo_succ, lo_succ]
      have hq : s = s % 4294967296 + 4294967296 * (s / 4294967296) := by omega
      have : pw i * s = pw i * (s % 4294967296) + 4294967296 * pw i * (s / 4294967296) := by
        conv => lhs; rw [hq]
        grind
      grind
theorem radd_f {x y : List Int} (hx : Dig x) (hy : Dig y) (hsx : x.length ≤ 100000) (hsy : y.length ≤ 100000) : Ev (fun k => fluxionref01_Add.f k x y) (num (val x + val y)) := by
  have h1 := Nat.le_max_left x.length y.length
  have h2 := Nat.le_max_right x.length y.length
  have h3 : max x.length y.length ≤ 100000 := Nat.max_le.2 ⟨hsx, hsy⟩
  have h := radd_loop hx hy (max x.length y.length + 1) (by omega) (by omega) (by omega) (max x.length y.length + 1) 0 (List.replicate (max x.length y.length + 1) 0) 0 (by omega) (by rw [List.length_replicate]) (dig_replicate _) (by omega) (by omega) (by rw [hi_zero, val_replicate]) (by rw [val_replicate, lo_zero, lo_zero]; omega)
  refine ev_eq (fun k => ?_) h
  unfold fluxionref01_Add.f
  rw [mx_nat, w64s _ (by omega), if_pos (by omega), Int.toNat_natCast, if_pos (by omega)]
  rfl

/-! ### differences -/
theorem rsub_loop {x y : List Int} (hx : Dig x) (hy : Dig y) (hs : x.length ≤ 1000000) (hyx : y.length ≤ x.length) (hle : val y ≤ val x) (d : Nat) : ∀ (i : Nat) (out : List Int) (c : Int), x.length = i + d → out.length = x.length → Dig out → 0 ≤ c → c ≤ 1 → hi out i = 0 → val out = lo x i - lo y i + pw i * c →
    Ev (fun k => fluxionref01_Sub.l0 k x y out c (i : Int)) (num (val x - val y)) := by
  induction d with
  | zero =>
    intro i out c hi hl hd hc0 hc1 hz hv
    rw [lo_all (by omega), lo_all (by omega)] at hv
    have hlt := val_lt hd
    rw [hl] at hlt
    obtain rfl : i = x.length := by omega
    obtain rfl : c = 0 := by
      rcases Int.lt_or_le 0 c with h | h
      · obtain rfl : c = 1 := by omega
        omega
      · omega
    refine Ev.step (fun k => ?_) (rshort_num hd (by omega) (by rw [hv]; omega))
    simp only [fluxionref01_Sub.l0]
    rw [if_neg (by omega)]
  | succ d ih =>
    intro i out c hi hl hd hc0 hc1 hz hv
    have h1 := dg_dig hx i
    have h2 := dg_dig hy i
    have hlt : i < out.length := by omega
    have c1 : (i : Int) < (x.length : Int) := by omega
    have c2 : (i : Int) < (out.length : Int) := by omega
    have c3 : i ≤ 2000000 := by omega
    have hs0 := hi_step out i
    have hn := hi_nonneg hd (i + 1)
    have h3 := dg_dig hd i
    have hz1 : dg out i = 0 := by omega
    have hz2 : PNat.hi out (i + 1) = 0 := by omega
    refine Ev.step (f := fun k => fluxionref01_Sub.l0 k x y (out.set i ((dg x i + 4294967296 - dg y i - c) % 4294967296)) (1 - (dg x i + 4294967296 - dg y i - c) / 4294967296) ((i + 1 : Nat) : Int)) (fun k => ?_) ?_
    · simp only [fluxionref01_Sub.l0]
      rw [if_pos c1, if_pos (by omega), digit_eq hy, Option.bind_some, if_pos c2, w64s i c3, rd_nat, u64_eq (x := dg x i) h1.1 (by omega), u64_eq (x := dg x i + 4294967296) (by omega) (by omega), u64_eq (x := dg x i + 4294967296 - dg y i) (by omega) (by omega), u64_eq (x := dg x i + 4294967296 - dg y i - c) (by omega) (by omega),
        u64_eq (x := 1 - (dg x i + 4294967296 - dg y i - c) / 4294967296) (by omega) (by omega), Int.toNat_natCast]
    · generalize hs' : dg x i + 4294967296 - dg y i - c = s at *
      refine ih (i + 1) _ _ (by omega) (by rw [List.length_set]; exact hl) (dig_set hd (by omega)) (by omega) (by omega) (by rw [hi_set_lt _ (Nat.lt_succ_self _)]; exact hz2) ?_
      rw [val_set _ hlt, hz1, pw_succ, lo_succ, lo_succ, hv]
      have hq : s = s % 4294967296 + 4294967296 * (s / 4294967296) := by omega
      have : pw i * s = pw i * (s % 4294967296) + 4294967296 * pw i * (s / 4294967296) := by
        conv => lhs; rw [hq]
        grind
      grind
theorem rsub_f {x y : List Int} (hx : Dig x) (hy : Dig y) (hs : x.length ≤ 1000000) (hyx : y.length ≤ x.length) (hle : val y ≤ val x) : Ev (fun k => fluxionref01_Sub.f k x y) (num (val x - val y)) := by
  refine ev_eq (fun k => ?_) (rsub_loop hx hy hs hyx hle x.length 0 (List.replicate x.length 0) 0 (by omega) (by rw [List.length_replicate]) (dig_replicate _) (by omega) (by omega) (by rw [hi_zero, val_replicate]) (by rw [val_replicate, lo_zero, lo_zero]; omega))
  unfold fluxionref01_Sub.f
  rw [if_pos (by omega), Int.toNat_natCast, if_pos (by omega)]
  rfl
end Go.Proofs.Ytceglknbonfdeaa.PNat
