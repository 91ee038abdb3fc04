/- Products, short division, shifts to the left and to the right. No program. -/
import Derived.Test.YtceglknbonfdeaaN2
namespace Go.Proofs.Ytceglknbonfdeaa.PNat
open Go.RowKit Go.Proofs.YtceglknbonfdeaaW.PrintWords Go.Proofs.YtceglknbonfdeaaW.PrintLast Go.Proofs.YtceglknbonfdeaaW.PrintMore
set_option linter.unusedVariables false

theorem mul_bound {a b A C : Int} (ha : 0 ≤ a) (ha1 : a ≤ A) (hb : 0 ≤ b) (hb1 : b ≤ C) : 0 ≤ a * b ∧ a * b ≤ A * C :=
  ⟨Int.mul_nonneg ha hb, Int.mul_le_mul ha1 hb1 hb (by omega)⟩
/-- A step of a product: the carry, a product of two digits and a digit. -/
theorem step_bound {c a b o : Int} (hc : 0 ≤ c ∧ c < 4294967296) (ha : 0 ≤ a ∧ a < 4294967296) (hb : 0 ≤ b ∧ b < 4294967296) (ho : 0 ≤ o ∧ o < 4294967296) : 0 ≤ a * b ∧ c + (a * b + o) < 18446744073709551616 := by
  have h := mul_bound (A := 4294967295) (C := 4294967295) ha.1 (by omega) hb.1 (by omega)
  generalize a * b = p at *
  omega
theorem split64 {s : Int} (h0 : 0 ≤ s) (h1 : s < 18446744073709551616) : (0 ≤ s % 4294967296 ∧ s % 4294967296 < 4294967296) ∧ 0 ≤ s / 4294967296 ∧ s / 4294967296 < 4294967296 ∧ s = s % 4294967296 + 4294967296 * (s / 4294967296) := by omega

/-! ### products -/
theorem mul_inner {y : List Int} (hy : Dig y) (x : List Int) (nx i : Nat) (hx : Dig x) (hxs : x.length = nx) (hi : i < nx) (hs : nx + y.length ≤ 1000000) (r : List Int)
    (next : ∀ out : List Int, out.length = nx + y.length → Dig out → (∀ j, i + 1 + y.length ≤ j → dg out j = 0) → val out = lo x (i + 1) * val y → Ev (fun k => nat_mul.l0 k y out x (nx : Int) ((i + 1 : Nat) : Int)) r) (d : Nat) :
    ∀ (q : Nat) (out : List Int) (c : Int), y.length = q + d → out.length = nx + y.length → Dig out → 0 ≤ c → c < 4294967296 → (∀ j, i + y.length ≤ j → dg out j = 0) → val out + c * pw (i + q) = lo x i * val y + pw i * dg x i * lo y q →
    Ev (fun k => nat_mul.l1 k y out (i : Int) (dg x i) c x (nx : Int) (i : Int) y (y.length : Int) (q : Int)) r := by
  induction d with
  | zero =>
    intro q out c hq hl hd hc0 hc1 hz hv
    have hq0 : q = y.length := by omega
    subst hq0
    have hlt : i + y.length < out.length := by omega
    have hn := next (out.set (i + y.length) c) (by rw [List.length_set]; exact hl) (dig_set hd ⟨hc0, hc1⟩) (fun j hj => by rw [dg_set c j hlt, if_neg (by omega)]; exact hz j (by omega)) (by
      rw [val_set c hlt, hz _ (Nat.le_refl _), lo_succ]
      rw [lo_all (Nat.le_refl _)] at hv
      grind)
    refine Ev.step (fun k => ?_) hn
    simp only [nat_mul.l1]
    rw [if_neg (by omega), w64a _ _ (by omega), if_pos (by omega), if_pos (by omega), Int.toNat_natCast, show c % 4294967296 = c from by omega, w64s i (by omega)]
  | succ d ih =>
    intro q out c hq hl hd hc0 hc1 hz hv
    have hlt : i + q < out.length := by omega
    have h1 := dg_dig hx i
    have h2 := dg_dig hy q
    have h3 := dg_dig hd (i + q)
    obtain ⟨p0, p1⟩ := step_bound ⟨hc0, hc1⟩ h1 h2 h3
    have hn := fun (s : Int) (hs : s = c + (dg x i * dg y q + dg out (i + q))) (h : (0 ≤ s % 4294967296 ∧ s % 4294967296 < 4294967296) ∧ 0 ≤ s / 4294967296 ∧ s / 4294967296 < 4294967296 ∧ s = s % 4294967296 + 4294967296 * (s / 4294967296)) =>
      ih (q + 1) (out.set (i + q) (s % 4294967296)) (s / 4294967296) (by omega) (by rw [List.length_set]; exact hl) (dig_set hd h.1) h.2.1 h.2.2.1 (fun j hj => by rw [dg_set _ j hlt, if_neg (by omega)]; exact hz j hj) (by
        rw [val_set _ hlt, lo_succ, show i + (q + 1) = (i + q) + 1 by omega, pw_succ, pw_add i q]
        rw [pw_add i q] at hv
        have h4 := h.2.2.2
        have h5 : pw i * pw q * s = pw i * pw q * (s % 4294967296) + 4294967296 * (pw i * pw q) * (s / 4294967296) := by
          conv => lhs; rw [h4]
          grind
        rw [hs] at h5
        grind)
    have hidx : (q : Int) < (y.length : Int) := by omega
    have hidx2 : ((i + q : Nat) : Int) < (out.length : Int) := by omega
    have hidx3 : i + q ≤ 2000000 := by omega
    have hidx4 : q ≤ 2000000 := by omega
    refine Ev.step (fun k => ?_) (hn (c + (dg x i * dg y q + dg out (i + q))) rfl (split64 (by omega) p1))
    simp only [nat_mul.l1]
    rw [if_pos hidx, if_pos (by omega), if_pos hidx, w64a _ _ hidx3, if_pos (by omega), if_pos hidx2, Int.toNat_natCast, rd_nat, rd_nat, u64_eq h1.1 (by omega), u64_eq h2.1 (by omega), u64_eq p0 (by omega), u64_eq h3.1 (by omega),
      u64_eq (x := dg x i * dg y q + dg out (i + q)) (by omega) (by omega), u64_eq (x := c + (dg x i * dg y q + dg out (i + q))) (by omega) p1, w64s q hidx4]
theorem mul_outer {x y : List Int} (hx : Dig x) (hy : Dig y) (hs : x.length + y.length ≤ 1000000) (d : Nat) : ∀ (i : Nat) (out : List Int), x.length = i + d → out.length = x.length + y.length → Dig out → (∀ j, i + y.length ≤ j → dg out j = 0) → val out = lo x i * val y →
    Ev (fun k => nat_mul.l0 k y out x (x.length : Int) (i : Int)) (num (val x * val y)) := by
  induction d with
  | zero =>
    intro i out hi hl hd hz hv
    rw [lo_all (by omega)] at hv
    refine Ev.step (f := fun k => (nat_trim.f k out).bind fun t => some t) (fun k => ?_) ?_
    · simp only [nat_mul.l0]
      rw [if_neg (by omega)]
    · rw [← tr_num hd hv]
      exact Ev.bind (trim_f _ (by omega)) (ev_some _)
  | succ d ih =>
    intro i out hi hl hd hz hv
    have h := mul_inner hy x x.length i hx rfl (by omega) hs _ (fun out h1 h2 h3 h4 => ih (i + 1) out (by omega) h1 h2 h3 h4) y.length 0 out 0 (by omega) hl hd (by omega) (by omega) hz (by rw [lo_zero, hv]; grind)
    refine Ev.step (fun k => ?_) h
    simp only [nat_mul.l0]
    rw [if_pos (by omega), if_pos (by omega), if_pos (by omega), rd_nat]
    rfl
theorem mul_f {x y : List Int} (hx : Dig x) (hy : Dig y) (hs : x.length + y.length ≤ 1000000) : Ev (fun k => nat_mul.f k x y) (num (val x * val y)) := by
  have h := mul_outer hx hy hs x.length 0 (List.replicate (x.length + y.length) 0) (by omega) (by simp) (dig_replicate _) (fun j _ => dg_replicate _ j) (by rw [val_replicate, lo_zero, Int.zero_mul])
  refine ev_eq (fun k => ?_) h
  unfold nat_mul.f
  rw [w64a _ _ (by omega), if_pos (by omega), Int.toNat_natCast, if_pos (by omega)]
  rfl

/-! ### division by a digit -/
theorem hi_set_lt {l : List Int} {j i : Nat} (v : Int) (h : j < i) : hi (l.set j v) i = hi l i := by unfold hi; rw [List.drop_set_of_lt h]
theorem hi_set_self {l : List Int} {j : Nat} (v : Int) (h : j < l.length) : hi (l.set j v) j = v + 4294967296 * hi l (j + 1) := by rw [hi_step, dg_set v j h, if_pos rfl, hi_set_lt v (Nat.lt_succ_self _)]
theorem wide_bound {r d y : Int} (hr : 0 ≤ r) (hry : r < y) (hy : y < 4294967296) (hd : 0 ≤ d ∧ d < 4294967296) : 0 ≤ r * 4294967296 + d ∧ r * 4294967296 + d < y * 4294967296 ∧ (r * 4294967296 + d) / y < 4294967296 ∧ 0 ≤ (r * 4294967296 + d) / y ∧ 0 ≤ (r * 4294967296 + d) % y ∧ (r * 4294967296 + d) % y < y ∧ r * 4294967296 + d = y * ((r * 4294967296 + d) / y) + (r * 4294967296 + d) % y := by
  have h1 : r * 4294967296 + d < y * 4294967296 := by omega
  refine ⟨by omega, h1, Int.ediv_lt_of_lt_mul (by omega) (by omega), Int.ediv_nonneg (by omega) (by omega), Int.emod_nonneg _ (by omega), Int.emod_lt_of_pos _ (by omega), (Int.mul_ediv_add_emod _ _).symm⟩
theorem short_loop {x : List Int} (hx : Dig x) (y : Int) (hy : 0 < y) (hy1 : y < 4294967296) (hs : x.length ≤ 1000000) (n : Nat) : ∀ (out : List Int) (r : Int), n ≤ x.length → out.length = x.length → Dig out → 0 ≤ r → r < y → hi x n = y * hi out n + r →
    Ev (fun k => nat_short.l0 k x y out r ((n : Int) - 1)) (num (val x / y), val x % y) := by
  induction n with
  | zero =>
    intro out r hn hl hd hr0 hr1 hv
    rw [hi_zero, hi_zero] at hv
    have hq : val x / y = val out := by
      rw [hv, Int.add_comm, Int.add_mul_ediv_left _ _ (by omega), Int.ediv_eq_zero_of_lt hr0 hr1, Int.zero_add]
    have hm : val x % y = r := by rw [hv, Int.add_comm, Int.add_mul_emod_self_left, Int.emod_eq_of_lt hr0 hr1]
    rw [hq, hm, ← tr_num hd rfl]
    refine Ev.step (f := fun k => (nat_trim.f k out).bind fun t => some (t, r)) (fun k => ?_) (ev_then (F := fun t => (t, r)) (trim_f _ (by omega)))
    simp only [nat_short.l0]
    rw [if_neg (by omega), show r % 4294967296 = r from by omega]
  | succ n ih =>
    intro out r hn hl hd hr0 hr1 hv
    have h1 := dg_dig hx n
    obtain ⟨w0, w1, w2, w3, w4, w5, w6⟩ := wide_bound hr0 hr1 hy1 h1
    have hlt : n < out.length := by omega
    have h := ih (out.set n ((r * 4294967296 + dg x n) / y)) ((r * 4294967296 + dg x n) % y) (by omega) (by rw [List.length_set]; exact hl) (dig_set hd ⟨w3, w2⟩) w4 w5 (by
      rw [hi_set_self _ hlt, hi_step x n, hv]
      grind)
    have hc1 : n ≤ 2000000 := by omega
    have hc2 : (n : Int) < (x.length : Int) := by omega
    have hc3 : (n : Int) < (out.length : Int) := by omega
    have hc4 : ¬ y = 0 := by omega
    refine Ev.step (fun k => ?_) h
    simp only [nat_short.l0]
    rw [w64r n hc1, pred_succ, if_pos (by omega), if_pos (by omega), if_pos hc2, u64_eq (x := y) (by omega) (by omega), if_neg hc4, if_pos hc3, rd_nat, u64_eq (x := dg x n) h1.1 (by omega), u64_eq (x := r * 4294967296) (by omega) (by omega), or64 hr0 (by omega) h1.1 h1.2,
      Int.tdiv_eq_ediv_of_nonneg w0, Int.tmod_eq_emod_of_nonneg w0, u64_eq w3 (by omega), Int.emod_eq_of_lt w3 w2, Int.toNat_natCast]
theorem short_f {x : List Int} (hx : Dig x) (y : Int) (hy : 0 < y) (hy1 : y < 4294967296) (hs : x.length ≤ 1000000) : Ev (fun k => nat_short.f k x y) (num (val x / y), val x % y) := by
  have h := short_loop hx y hy hy1 hs x.length (List.replicate x.length 0) 0 (Nat.le_refl _) (by simp) (dig_replicate _) (by omega) hy (by rw [hi_all (Nat.le_refl _), hi_all (by simp)]; omega)
  refine ev_eq (fun k => ?_) h
  unfold nat_short.f
  rw [if_pos (by omega), Int.toNat_natCast, if_pos (by omega), w64p _ (by omega)]
end Go.Proofs.Ytceglknbonfdeaa.PNat
