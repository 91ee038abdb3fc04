/- How many binary digits; the whole division; greatest common divisors; square roots by Newton's steps. No program. -/
import Derived.Test.YtceglknbonfdeaaN5
namespace Go.Proofs.Ytceglknbonfdeaa.PNat
open Go.RowKit Go.Proofs.YtceglknbonfdeaaW.PrintWords Go.Proofs.YtceglknbonfdeaaW.PrintLast Go.Proofs.YtceglknbonfdeaaW.PrintMore
set_option linter.unusedVariables false

/-! ### binary digits -/
theorem bitLenAux_spec (f : Nat) : ∀ x : Nat, x < 2 ^ f → x < 2 ^ Lib.bitLenAux f x ∧ (0 < x → 1 ≤ Lib.bitLenAux f x ∧ 2 ^ (Lib.bitLenAux f x - 1) ≤ x) ∧ (x = 0 → Lib.bitLenAux f x = 0) ∧ Lib.bitLenAux f x ≤ f := by
  induction f with
  | zero => intro x hx; obtain rfl : x = 0 := by simpa using hx
            exact ⟨by decide, fun h => absurd h (by decide), fun _ => rfl, Nat.le_refl _⟩
  | succ f ih =>
    intro x hx
    have e : (2 : Nat) ^ (f + 1) = 2 * 2 ^ f := by rw [Nat.pow_succ, Nat.mul_comm]
    obtain ⟨h1, h2, h3, h4⟩ := ih (x / 2) (by omega)
    simp only [Lib.bitLenAux]
    by_cases h0 : x = 0
    · rw [if_pos h0]
      exact ⟨by rw [h0]; decide, fun h => absurd h0 (by omega), fun _ => rfl, by omega⟩
    · rw [if_neg h0]
      have e2 : (2 : Nat) ^ (1 + Lib.bitLenAux f (x / 2)) = 2 * 2 ^ Lib.bitLenAux f (x / 2) := by rw [Nat.add_comm, Nat.pow_succ, Nat.mul_comm]
      refine ⟨by rw [e2]; omega, fun _ => ⟨by omega, ?_⟩, fun h => absurd h h0, by omega⟩
      rw [Nat.add_sub_cancel_left]
      rcases Nat.eq_zero_or_pos (x / 2) with hz | hz
      · rw [h3 hz]; simp; omega
      · obtain ⟨h5, h6⟩ := h2 hz
        have e3 : (2 : Nat) ^ Lib.bitLenAux f (x / 2) = 2 * 2 ^ (Lib.bitLenAux f (x / 2) - 1) := by
          conv => lhs; rw [show Lib.bitLenAux f (x / 2) = (Lib.bitLenAux f (x / 2) - 1) + 1 by omega]
          rw [Nat.pow_succ, Nat.mul_comm]
        omega
/-- How many binary digits: the least power of 2 above. -/
theorem blen_spec {d : Int} (hd : 0 ≤ d) (hd1 : d < 18446744073709551616) : ∃ b : Nat, blen d = (b : Int) ∧ d < 2 ^ b ∧ (0 < d → 1 ≤ b ∧ 2 ^ (b - 1) ≤ d) ∧ (d = 0 → b = 0) ∧ b ≤ 64 := by
  obtain ⟨x, rfl⟩ := Int.eq_ofNat_of_zero_le hd
  have hx : x < 2 ^ 64 := by have e : (2 : Nat) ^ 64 = 18446744073709551616 := by decide
                             omega
  obtain ⟨h1, h2, h3, h4⟩ := bitLenAux_spec 64 x hx
  refine ⟨Lib.bitLenAux 64 x, by unfold blen Lib.bitLen; rw [Int.toNat_natCast], by exact_mod_cast h1, fun h => ?_, fun h => h3 (by omega), h4⟩
  obtain ⟨h5, h6⟩ := h2 (by omega)
  exact ⟨h5, by exact_mod_cast h6⟩
theorem pow_lt_iff {a b : Nat} (h : (2 : Int) ^ a < 2 ^ b) : a < b := by
  have h' : (2 : Nat) ^ a < 2 ^ b := by exact_mod_cast h
  exact (Nat.pow_lt_pow_iff_right (by decide)).1 h'
theorem two_mono {a b : Nat} (h : a ≤ b) : (2 : Int) ^ a ≤ 2 ^ b := by exact_mod_cast Nat.pow_le_pow_right (by decide) h
theorem pw_two (i : Nat) : pw i = 2 ^ (32 * i) := by
  unfold pw
  rw [Int.pow_mul]
  rfl
theorem digit_len {d : Int} (hd : 0 ≤ d ∧ d < 4294967296) {b : Nat} (h : 0 < d → 1 ≤ b ∧ 2 ^ (b - 1) ≤ d) (h0 : d = 0 → b = 0) : b ≤ 32 := by
  rcases Int.lt_or_le 0 d with hp | hp
  · obtain ⟨h1, h2⟩ := h hp
    have e : (2 : Int) ^ 32 = 4294967296 := by decide
    have := pow_lt_iff (a := b - 1) (b := 32) (by omega)
    omega
  · have := h0 (by omega)
    omega
/-- The size: the value lies below that power of 2, and not below the one before. -/
theorem size_f {x : List Int} (hx : Canon x) (hs : x.length ≤ 100000) : ∃ b : Nat, nat_size.f x = some (b : Int) ∧ val x < 2 ^ b ∧ (0 < val x → 1 ≤ b ∧ 2 ^ (b - 1) ≤ val x) ∧ (val x = 0 → b = 0) ∧ b ≤ 32 * x.length := by
  unfold nat_size.f
  rcases Nat.eq_zero_or_pos x.length with h0 | h0
  · have hxe := List.eq_nil_of_length_eq_zero h0
    exact ⟨0, by rw [if_pos (by omega)]; rfl, by rw [hxe]; decide, fun h => by rw [hxe] at h; exact absurd h (by decide), fun _ => rfl, by omega⟩
  · have hd := dg_dig hx.1 (x.length - 1)
    obtain ⟨b, hb, b1, b2, b3, b4⟩ := blen_spec hd.1 (by omega)
    have hl := hx.last h0
    have b5 := digit_len hd b2 b3
    obtain ⟨b6, b7⟩ := b2 (by omega)
    have c0 : ((x.length - 1 : Nat) : Int) < (x.length : Int) := by omega
    have c1 : x.length - 1 ≤ 100000 := by omega
    refine ⟨32 * (x.length - 1) + b, ?_, ?_, fun _ => ⟨by omega, ?_⟩, fun h => ?_, by omega⟩
    · rw [if_neg (by omega), w64l h0 (by omega), if_pos (by omega), if_pos c0, rd_nat]
      unfold bits_Len32.f
      rw [if_pos hd.1, if_pos (by omega), Option.bind_some, hb]
      congr 1
      generalize x.length - 1 = n at *
      rw [w64 (x := 32 * (n : Int)) (by omega) (by omega), w64 (by omega) (by omega)]
      omega
    · have e1 := lo_hi x (x.length - 1)
      have e2 := hi_step x (x.length - 1)
      rw [show x.length - 1 + 1 = x.length by omega, hi_all (Nat.le_refl _), Int.mul_zero, Int.add_zero] at e2
      have e3 := lo_lt hx.1 (x.length - 1)
      have e4 : pw (x.length - 1) * (dg x (x.length - 1) + 1) ≤ pw (x.length - 1) * 2 ^ b := Int.mul_le_mul_of_nonneg_left (by omega) (by have := pw_pos (x.length - 1); omega)
      have e5 : pw (x.length - 1) * (dg x (x.length - 1) + 1) = pw (x.length - 1) * dg x (x.length - 1) + pw (x.length - 1) := by grind
      rw [Int.pow_add, ← pw_two]
      rw [e2] at e1
      omega
    · have e1 := lo_hi x (x.length - 1)
      have e2 := hi_step x (x.length - 1)
      rw [show x.length - 1 + 1 = x.length by omega, hi_all (Nat.le_refl _), Int.mul_zero, Int.add_zero] at e2
      have e3 := lo_nonneg hx.1 (x.length - 1)
      have e4 : pw (x.length - 1) * 2 ^ (b - 1) ≤ pw (x.length - 1) * dg x (x.length - 1) := Int.mul_le_mul_of_nonneg_left b7 (by have := pw_pos (x.length - 1); omega)
      rw [show 32 * (x.length - 1) + b - 1 = 32 * (x.length - 1) + (b - 1) by omega, Int.pow_add, ← pw_two]
      rw [e2] at e1
      omega
    · have := hx.pos h0
      omega

/-! ### the whole division -/
theorem lead_f {d : Int} (hd : 0 < d) (hd1 : d < 4294967296) : ∃ n : Nat, n < 32 ∧ bits_LeadingZeros32.f d = some (n : Int) ∧ 2147483648 ≤ d * 2 ^ n ∧ (d + 1) * 2 ^ n ≤ 4294967296 := by
  obtain ⟨b, hb, b1, b2, b3, b4⟩ := blen_spec (d := d) (by omega) (by omega)
  have b5 := digit_len ⟨by omega, hd1⟩ b2 b3
  obtain ⟨b6, b7⟩ := b2 hd
  refine ⟨32 - b, by omega, ?_, ?_, ?_⟩
  · unfold bits_LeadingZeros32.f bits_Len32.f
    rw [if_pos (by omega), if_pos (by omega), Option.bind_some, hb, w64 (by omega) (by omega)]
    congr 1
    omega
  · have e : (2 : Int) ^ (b - 1) * 2 ^ (32 - b) = 2147483648 := by
      rw [← Int.pow_add, show b - 1 + (32 - b) = 31 by omega]
      decide
    rw [← e]
    exact Int.mul_le_mul_of_nonneg_right b7 (by have := two_pos (32 - b); omega)
  · have e : (2 : Int) ^ b * 2 ^ (32 - b) = 4294967296 := two_split b5
    rw [← e]
    exact Int.mul_le_mul_of_nonneg_right (by omega) (by have := two_pos (32 - b); omega)
theorem ediv_shift {a b : Int} (n : Nat) (hb : 0 < b) : a * 2 ^ n / (b * 2 ^ n) = a / b ∧ a * 2 ^ n % (b * 2 ^ n) / 2 ^ n = a % b := by
  have hp := two_pos n
  constructor
  · exact Int.mul_ediv_mul_of_pos_left _ _ hp
  · have e : a * 2 ^ n % (b * 2 ^ n) = a % b * 2 ^ n := by
      rw [Int.emod_def, Int.mul_ediv_mul_of_pos_left _ _ hp, Int.emod_def]
      generalize (2 : Int) ^ n = w
      grind
    rw [e, Int.mul_ediv_cancel _ (by omega)]
theorem div_f {x y : List Int} (hx : Canon x) (hy : Canon y) (hy0 : 0 < y.length) (hsx : x.length ≤ 100000) (hsy : y.length ≤ 100000) : Ev (fun k => nat_div.f k x y) (num (val x / val y), num (val x % val y)) := by
  have hyv := hy.pos hy0
  have hxv := val_nonneg hx.1
  unfold nat_div.f
  by_cases hlt : val x < val y
  · have hc := compare_f hx hy (by omega)
    rw [cmpI_lt hlt] at hc
    refine Ev.bind hc ?_
    rw [Int.ediv_eq_zero_of_lt hxv hlt, Int.emod_eq_of_lt hxv hlt, num_of hx]
    refine ev_eq (f := fun _ => some ([], x)) (fun k => ?_) (ev_some _)
    rw [if_pos (by decide), clone_eq _ (by omega)]
    rfl
  · have hc := compare_f hx hy (by omega)
    have hlen := le_len hx.1 hy (show val y ≤ val x by omega)
    have hge : ¬ cmpI (val x) (val y) < 0 := by have := cmpI_nonneg (a := val x) (b := val y); omega
    refine Ev.bind hc ?_
    by_cases h1 : y.length = 1
    · have hd0 := dg_dig hy.1 0
      have hv : val y = dg y 0 := by
        have := lo_succ y 0
        rw [lo_all (by omega), lo_zero, pw_zero] at this
        omega
      have hs := short_f hx.1 (dg y 0) (by omega) hd0.2 (by omega)
      rw [← hv] at hs
      have hr0 := Int.emod_nonneg (val x) (show val y ≠ 0 by omega)
      have hr1 := Int.emod_lt_of_pos (val x) hyv
      have htr := trim_f [val x % val y] (by simp)
      rw [tr_num (l := [val x % val y]) (dig_cons.2 ⟨⟨hr0, by omega⟩, dig_nil⟩) (v := val x % val y) (by rw [val_cons, val_nil]; omega)] at htr
      refine ev_eq (f := fun k => (nat_short.f k x (val y)).bind fun bt165 => ((nat_trim.f k (([bt165.2] : List Int))).bind fun t172 => (some (bt165.1, t172)))) (fun k => ?_) ?_
      · rw [if_neg hge, if_pos (by omega), if_pos (by omega), show rd y 0 = dg y 0 from rd_nat y 0, ← hv]
      · exact Ev.bind hs (Ev.bind htr (ev_some _))
    · have hm2 : 2 ≤ y.length := by omega
      have hdt := dg_dig hy.1 (y.length - 1)
      have hlast := hy.last hy0
      obtain ⟨n, hn, hlz, hn1, hn2⟩ := lead_f (d := dg y (y.length - 1)) (by omega) hdt.2
      have hP := two_pos n
      have hlx := left_f hx.1 hn (show x.length ≤ 1000000 by omega)
      have hly := left_f hy.1 hn (show y.length ≤ 1000000 by omega)
      have e2 := lo_hi y (y.length - 1)
      have e3 := hi_step y (y.length - 1)
      rw [show y.length - 1 + 1 = y.length by omega, hi_all (Nat.le_refl _), Int.mul_zero, Int.add_zero] at e3
      rw [e3] at e2
      have l1 := lo_nonneg hy.1 (y.length - 1)
      have l2 := lo_lt hy.1 (y.length - 1)
      have hpm := pw_pos (y.length - 1)
      have epm : pw y.length = 4294967296 * pw (y.length - 1) := by rw [← pw_succ, show y.length - 1 + 1 = y.length by omega]
      have hyhi : val y * 2 ^ n < pw y.length := by
        have h3 : val y * 2 ^ n < (pw (y.length - 1) * (dg y (y.length - 1) + 1)) * 2 ^ n := Int.mul_lt_mul_of_pos_right (by grind) hP
        have h4 : pw (y.length - 1) * ((dg y (y.length - 1) + 1) * 2 ^ n) ≤ pw (y.length - 1) * 4294967296 := Int.mul_le_mul_of_nonneg_left hn2 (by omega)
        have h5 : pw (y.length - 1) * (dg y (y.length - 1) + 1) * 2 ^ n = pw (y.length - 1) * ((dg y (y.length - 1) + 1) * 2 ^ n) := Int.mul_assoc _ _ _
        omega
      have hylo : pw (y.length - 1) * 2147483648 ≤ val y * 2 ^ n := by
        have h3 : pw (y.length - 1) * 2147483648 ≤ pw (y.length - 1) * (dg y (y.length - 1) * 2 ^ n) := Int.mul_le_mul_of_nonneg_left hn1 (by omega)
        have h4 : (pw (y.length - 1) * dg y (y.length - 1)) * 2 ^ n ≤ val y * 2 ^ n := Int.mul_le_mul_of_nonneg_right (by omega) (by omega)
        have h5 : pw (y.length - 1) * dg y (y.length - 1) * 2 ^ n = pw (y.length - 1) * (dg y (y.length - 1) * 2 ^ n) := Int.mul_assoc _ _ _
        omega
      have hvv : val (num (val y * 2 ^ n)) = val y * 2 ^ n := num_val (by omega)
      have hvc : Canon (num (val y * 2 ^ n)) := num_canon (by omega)
      have hvl : (num (val y * 2 ^ n)).length = y.length := by
        have a1 := num_len (v := val y * 2 ^ n) (by omega) hyhi
        have a2 : y.length ≤ (num (val y * 2 ^ n)).length := by
          rcases Nat.lt_or_ge (num (val y * 2 ^ n)).length y.length with h | h
          · have b1 := val_lt hvc.1
            have b2 : pw (num (val y * 2 ^ n)).length ≤ pw (y.length - 1) := pw_mono (by omega)
            omega
          · exact h
        omega
      have hvt : 2147483648 ≤ dg (num (val y * 2 ^ n)) (y.length - 1) := by
        have b1 := lo_hi (num (val y * 2 ^ n)) (y.length - 1)
        have b2 := hi_step (num (val y * 2 ^ n)) (y.length - 1)
        have b0 : hi (num (val y * 2 ^ n)) y.length = 0 := hi_all (by rw [hvl]; exact Nat.le_refl _)
        rw [show y.length - 1 + 1 = y.length by omega, b0, Int.mul_zero, Int.add_zero] at b2
        have b3 := lo_lt hvc.1 (y.length - 1)
        rw [b2, hvv] at b1
        rcases Int.lt_or_le (dg (num (val y * 2 ^ n)) (y.length - 1)) 2147483648 with h | h
        · have b4 : pw (y.length - 1) * (dg (num (val y * 2 ^ n)) (y.length - 1) + 1) ≤ pw (y.length - 1) * 2147483648 := Int.mul_le_mul_of_nonneg_left (by omega) (by omega)
          have b5 : pw (y.length - 1) * (dg (num (val y * 2 ^ n)) (y.length - 1) + 1) = pw (y.length - 1) * dg (num (val y * 2 ^ n)) (y.length - 1) + pw (y.length - 1) := by grind
          omega
        · exact h
      have hul : (fixd (x.length + 1) (val x * 2 ^ n)).length = x.length + 1 := fixd_length _ _
      have hxhi : val x * 2 ^ n < pw (x.length + 1) := by
        have h3 : val x * 2 ^ n < pw x.length * 2 ^ n := Int.mul_lt_mul_of_pos_right (val_lt hx.1) hP
        have h4 : pw x.length * 2 ^ n ≤ pw x.length * 4294967296 := Int.mul_le_mul_of_nonneg_left (by have := two_le hn; omega) (by have := pw_pos x.length; omega)
        rw [pw_succ]
        omega
      have huv : val (fixd (x.length + 1) (val x * 2 ^ n)) = val x * 2 ^ n := fixd_val _ (Int.mul_nonneg hxv (by omega)) hxhi
      have hud := fixd_dig (x.length + 1) (val x * 2 ^ n)
      have htop : hi (fixd (x.length + 1) (val x * 2 ^ n)) (x.length + 1 - y.length) < val (num (val y * 2 ^ n)) := by
        rw [hvv]
        have b1 := lo_hi (fixd (x.length + 1) (val x * 2 ^ n)) (x.length + 1 - y.length)
        rw [huv] at b1
        have b2 := lo_nonneg hud (x.length + 1 - y.length)
        have b3 : pw (x.length + 1 - y.length) * pw (y.length - 1) = pw x.length := by rw [← pw_add]; congr 1; omega
        have b4 : val x * 2 ^ n < pw x.length * 2 ^ n := Int.mul_lt_mul_of_pos_right (val_lt hx.1) hP
        have b5 : pw (y.length - 1) * 2 ^ n ≤ val y * 2 ^ n := Int.mul_le_mul_of_nonneg_right (hy.ge hy0) (by omega)
        have b6 : pw (x.length + 1 - y.length) * hi (fixd (x.length + 1) (val x * 2 ^ n)) (x.length + 1 - y.length) < pw (x.length + 1 - y.length) * (pw (y.length - 1) * 2 ^ n) := by
          have : pw (x.length + 1 - y.length) * (pw (y.length - 1) * 2 ^ n) = pw x.length * 2 ^ n := by rw [← b3]; grind
          omega
        have b7 := Int.lt_of_mul_lt_mul_left b6 (by have := pw_pos (x.length + 1 - y.length); omega)
        omega
      have hloop := div_loop hn hvc.1 hvl hm2 hvt (show x.length + 1 ≤ 900000 by omega) (N := val x * 2 ^ n) (x.length + 1 - y.length) (fixd (x.length + 1) (val x * 2 ^ n)) (List.replicate (x.length + 1 - y.length) 0) hul hud (by rw [List.length_replicate]; omega) (dig_replicate _) (by rw [List.length_replicate]; exact Nat.le_refl _) htop (by
        rw [huv, hi_all (by rw [List.length_replicate]; exact Nat.le_refl _), Int.mul_zero, Int.mul_zero, Int.zero_add])
      rw [hvv, (ediv_shift n hyv).1, (ediv_shift n hyv).2] at hloop
      have htr := trim_f (fixd (y.length + 1) (val y * 2 ^ n)) (by rw [fixd_length]; omega)
      rw [tr_fixd (y.length + 1) (by omega) (by rw [pw_succ]; omega)] at htr
      have c0 : ((y.length - 1 : Nat) : Int) < (y.length : Int) := by omega
      have c1 : wrap64 (((x.length + 1 : Nat) : Int) - (y.length : Int)) = ((x.length + 1 - y.length : Nat) : Int) := by rw [w64 (by omega) (by omega)]; omega
      have c2 : x.length + 1 - y.length ≤ 2000000 := by omega
      refine ev_eq (f := fun k => (nat_left.f k x (n : Int)).bind fun t177 => ((nat_left.f k y (n : Int)).bind fun t180 => ((nat_trim.f k t180).bind fun t183 => (if 0 ≤ (wrap64 ((t177.length : Int) - (t183.length : Int))) then (if (wrap64 ((t177.length : Int) - (t183.length : Int)) : Int).toNat ≤ 70368744177664 then ((some (List.replicate (wrap64 ((t177.length : Int) - (t183.length : Int)) : Int).toNat 0 : List Int)).bind fun y186 => (nat_div.l0 k (n : Int) t177 t183 (t183.length : Int) y186 (wrap64 ((y186.length : Int) - 1)))) else (none)) else (none))))) (fun k => ?_) ?_
      · rw [if_neg hge, if_neg (by omega), w64l hy0 (by omega), if_pos (by omega), if_pos c0, rd_nat, hlz, Option.bind_some]
      · refine Ev.bind hlx (Ev.bind hly (Ev.bind htr (ev_eq (fun k => ?_) hloop)))
        rw [hul, hvl, c1, Int.toNat_natCast, if_pos (by omega), if_pos (by omega), Option.bind_some, List.length_replicate, w64p _ c2]
end Go.Proofs.Ytceglknbonfdeaa.PNat
