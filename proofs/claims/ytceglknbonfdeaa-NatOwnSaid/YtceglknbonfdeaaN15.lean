/- Powers, both ways. No program. -/
import Derived.Test.YtceglknbonfdeaaN9
namespace Go.Proofs.Ytceglknbonfdeaa.PNat
open Go.RowKit Go.Proofs.YtceglknbonfdeaaW.PrintWords Go.Proofs.YtceglknbonfdeaaW.PrintLast Go.Proofs.YtceglknbonfdeaaW.PrintMore
set_option linter.unusedVariables false

theorem bits_unique {v : Int} (hv : 0 ≤ v) {b c : Nat} (b1 : v < 2 ^ b) (b2 : 0 < v → 1 ≤ b ∧ 2 ^ (b - 1) ≤ v) (b3 : v = 0 → b = 0) (c1 : v < 2 ^ c) (c2 : 0 < v → 1 ≤ c ∧ 2 ^ (c - 1) ≤ v) (c3 : v = 0 → c = 0) : b = c := by
  rcases Int.lt_or_le 0 v with h | h
  · obtain ⟨b4, b5⟩ := b2 h
    obtain ⟨c4, c5⟩ := c2 h
    have h1 := pow_lt_iff (a := b - 1) (b := c) (by omega)
    have h2 := pow_lt_iff (a := c - 1) (b := b) (by omega)
    omega
  · have e : v = 0 := by omega
    rw [b3 e, c3 e]
theorem shri {d : Int} {n : Nat} (hn : n ≤ 64) : shr .i64 d (n : Int) = d / 2 ^ n := by
  unfold shr
  rw [Int.toNat_natCast, Nat.min_eq_left (show n ≤ IntKind.i64.bits by simp only [IntKind.bits]; omega)]
theorem andi_one {x : Int} (hx : 0 ≤ x) (hx1 : x < 4294967296) : Go.bits .and .i64 x 1 = x % 2 := by
  have e : (2 : Int) ^ 32 = 4294967296 := by decide
  have h := bits_mask .i64 32 (by decide) (fun n h0 h1 => by
    rw [e] at h1
    rw [IntKind.wrap_i64]
    rw [Int.emod_eq_of_lt (by omega) (by omega)]
    omega) 1 (by decide) x hx (by rw [e]; exact hx1)
  exact h
theorem pow_bound {v : Int} {b e : Nat} (h0 : 0 ≤ v) (h1 : v < 2 ^ b) : 0 ≤ v ^ e ∧ v ^ e ≤ 2 ^ (b * e) := by
  induction e with
  | zero => rw [Int.pow_zero, Nat.mul_zero, Int.pow_zero]; omega
  | succ e ih =>
    rw [Int.pow_succ, Nat.mul_succ, Int.pow_add]
    exact ⟨Int.mul_nonneg ih.1 h0, Int.mul_le_mul ih.2 (by omega) h0 (by have := two_pos (b * e); omega)⟩
theorem pow_len {v : Int} {b e : Nat} (h0 : 0 ≤ v) (h1 : v < 2 ^ b) (h : b * e ≤ 16384) : (num (v ^ e)).length ≤ 513 := by
  obtain ⟨p0, p1⟩ := pow_bound (e := e) h0 h1
  refine num_len p0 ?_
  have h2 : (2 : Int) ^ (b * e) ≤ 2 ^ 16384 := two_mono h
  have h3 : pw 512 = 2 ^ 16384 := pw_two 512
  have h4 : pw 513 = 4294967296 * pw 512 := pw_succ 512
  have h5 := pw_pos 512
  rw [← h3] at h2
  omega
theorem num_one : num 1 = [1] := num_eq (l := [1]) ⟨dig_cons.2 ⟨by omega, dig_nil⟩, .inr (by decide)⟩ rfl
theorem power_loop {x : List Int} (cx : Canon x) (sx : x.length ≤ 512) {b a : Nat} (hb : val x < 2 ^ b) (hba : b * a ≤ 16384) (ha : a ≤ 1000) (n : Nat) (hn : n ≤ 64) : Ev (fun k => nat_Power.l0 k x (a : Int) (num (val x ^ (a / 2 ^ n))) ((n : Int) - 1)) (num (val x ^ a), 0) := by
  have vx := val_nonneg cx.1
  induction n with
  | zero =>
    rw [Nat.pow_zero, Nat.div_one]
    refine ev_succ ?_
    simp only [nat_Power.l0]
    exact ev_else (by omega) (ev_some _)
  | succ n ih =>
    have hn1 := ih (by omega)
    have hle : ∀ e : Nat, e ≤ a → (num (val x ^ e)).length ≤ 513 := fun e he => pow_len vx hb (Nat.le_trans (Nat.mul_le_mul_left b he) hba)
    have d0 : a / 2 ^ (n + 1) = a / 2 ^ n / 2 := by rw [Nat.pow_succ, Nat.div_div_eq_div_mul]
    have d1 : a / 2 ^ n ≤ a := Nat.div_le_self _ _
    have hs : shr .i64 (a : Int) (n : Int) = ((a / 2 ^ n : Nat) : Int) := by
      rw [shri (by omega)]
      exact_mod_cast rfl
    rw [d0]
    generalize a / 2 ^ n = e at *
    have hand : Go.bits .and .i64 (shr .i64 (a : Int) (n : Int)) 1 = (e : Int) % 2 := by rw [hs, andi_one (x := (e : Int)) (by omega) (by omega)]
    have p0 : ∀ m : Nat, 0 ≤ val x ^ m := fun m => (pow_bound vx hb).1
    have hl := hle (e / 2) (by omega)
    have hm := mul_f (num_canon (p0 (e / 2))).1 (num_canon (p0 (e / 2))).1 (by omega)
    rw [num_val (p0 _), ← Int.pow_add] at hm
    have hl2 := hle (e / 2 + e / 2) (by omega)
    have hm2 := mul_f (num_canon (p0 (e / 2 + e / 2))).1 cx.1 (by omega)
    rw [num_val (p0 _), ← Int.pow_succ, Nat.succ_eq_add_one] at hm2
    rw [pred_succ]
    refine ev_succ ?_
    simp only [nat_Power.l0]
    rw [hand]
    have c3 : n ≤ 2000000 := by omega
    refine ev_if (by omega) (Ev.bind hm (ev_if (by omega) ?_))
    by_cases h1 : (e : Int) % 2 = 1
    · have ee : e / 2 + e / 2 + 1 = e := by omega
      rw [ee] at hm2
      exact ev_if h1 (Ev.bind hm2 (ev_eq (fun k => by rw [w64p n c3]) hn1))
    · have ee : e / 2 + e / 2 = e := by omega
      rw [ee]
      exact ev_else h1 (ev_eq (fun k => by rw [w64p n c3]) hn1)
theorem power_j0 (k : Nat) (x0 : List Int) (x1 : Int) : nat_Power.j0 (k + 1) x0 x1 false = ((nat_size.f x0).bind fun t1016 => (if (wrap64 (t1016 * x1)) > 16384 then (some (([] : List Int), 8)) else ((bits_Len.f k (IntKind.u64.wrap (x1))).bind fun t1020 => (nat_Power.l0 k x0 x1 (([1] : List Int)) (wrap64 (t1020 - 1)))))) := by
  rw [nat_Power.j0, if_neg (by decide)]
/-- What 'Power' answers at a number in its form. -/
theorem Power_ok {x : List Int} (cx : Canon x) (sx : x.length ≤ 512) (a : Int) (b : Nat) (b1 : val x < 2 ^ b) (b2 : 0 < val x → 1 ≤ b ∧ 2 ^ (b - 1) ≤ val x) (b3 : val x = 0 → b = 0) :
    (a < 0 ∨ 1000 < a → Ev (fun k => nat_Power.f k x a) ([], 2)) ∧ (0 ≤ a → a ≤ 1000 → (16384 < (b : Int) * a → Ev (fun k => nat_Power.f k x a) ([], 8)) ∧ ((b : Int) * a ≤ 16384 → Ev (fun k => nat_Power.f k x a) (num (val x ^ a.toNat), 0))) := by
  have vx := val_nonneg cx.1
  have f1 := form1 x (by omega)
  rw [fE_ok sx cx] at f1
  obtain ⟨c, hc, c1, c2, c3, c4⟩ := size_f cx (by omega)
  obtain rfl : c = b := bits_unique vx c1 c2 c3 b1 b2 b3
  have stop : Ev (fun k => nat_Power.j0 k x a true) ([], 2) := by
    refine ev_succ ?_
    simp only [nat_Power.j0]
    exact ev_if (by decide) (ev_some _)
  constructor
  · intro h
    unfold nat_Power.f
    refine Ev.bind f1 (ev_if rfl ?_)
    by_cases h0 : a < 0
    · exact ev_if h0 stop
    · refine ev_else h0 ?_
      rw [decide_eq_true (show a > 1000 by omega)]
      exact stop
  · intro h0 h1
    have hw : wrap64 ((c : Int) * a) = (c : Int) * a := by
      obtain ⟨m0, m1⟩ := mul_bound (a := (c : Int)) (b := a) (A := 16384) (C := 1000) (by omega) (by omega) h0 h1
      exact w64 (by omega) (by omega)
    have go : ∀ r, Ev (fun k => nat_Power.j0 k x a false) r → Ev (fun k => nat_Power.f k x a) r := fun r hr => by
      unfold nat_Power.f
      refine Ev.bind f1 (ev_if rfl (ev_else (by omega) ?_))
      rw [decide_eq_false (show ¬ a > 1000 by omega)]
      exact hr
    constructor
    · intro hb
      exact go _ (Ev.step (fun k => power_j0 k x a) (ev_val hc (ev_if (by rw [hw]; exact hb) (ev_some _))))
    · intro hb
      clear hw
      have hw2 : ¬ wrap64 ((c : Int) * a) > 16384 := by
        have hp : 0 ≤ (c : Int) * a := Int.mul_nonneg (by omega) h0
        rw [w64 (by omega) (by omega)]
        omega
      obtain ⟨d, hd, d1, d2, d3, d4⟩ := blen_spec (d := a) h0 (by omega)
      obtain ⟨m, rfl⟩ := Int.eq_ofNat_of_zero_le h0
      have hba : c * m ≤ 16384 := Int.ofNat_le.1 (show ((c * m : Nat) : Int) ≤ ((16384 : Nat) : Int) by rw [Int.natCast_mul]; exact hb)
      have hz : m / 2 ^ d = 0 := by
        refine Nat.div_eq_of_lt ?_
        exact_mod_cast d1
      have hl := power_loop cx sx b1 hba (by omega) d d4
      rw [hz, Int.pow_zero, num_one] at hl
      have hlen : ∀ k, bits_Len.f k (IntKind.u64.wrap (m : Int)) = some (d : Int) := fun k => by
        unfold bits_Len.f bits_Len64.f
        rw [u64_eq (x := (m : Int)) (by omega) (by omega), if_pos (by omega), if_pos (show (m : Int) ≤ 18446744073709551615 by omega), hd]
        rfl
      refine go _ (Ev.step (fun k => power_j0 k x _) (ev_val hc (ev_else hw2 (Ev.bind (ev_of_eq hlen) (ev_eq (fun k => ?_) hl)))))
      rw [w64p d (by omega)]
end Go.Proofs.Ytceglknbonfdeaa.PNat
