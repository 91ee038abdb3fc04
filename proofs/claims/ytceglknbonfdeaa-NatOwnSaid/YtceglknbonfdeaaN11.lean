/- Square roots: by Newton's steps and, in the reference, by pairs of bits. No program. -/
import Derived.Test.YtceglknbonfdeaaN10
namespace Go.Proofs.Ytceglknbonfdeaa.PNat
open Go.RowKit Go.Proofs.YtceglknbonfdeaaW.PrintWords Go.Proofs.YtceglknbonfdeaaW.PrintLast Go.Proofs.YtceglknbonfdeaaW.PrintMore
set_option linter.unusedVariables false

/-- s is the whole part of v's root. -/
def IsRoot (v s : Int) : Prop := 0 ≤ s ∧ s * s ≤ v ∧ v < (s + 1) * (s + 1)
theorem sq_mono {a b : Int} (ha : 0 ≤ a) (h : a ≤ b) : a * a ≤ b * b := Int.mul_le_mul h h ha (by omega)
theorem IsRoot.le {v s : Int} (hs : IsRoot v s) : s ≤ v := by
  obtain ⟨s0, s1, s2⟩ := hs
  rcases Int.lt_or_le 0 s with h | h
  · have : s * 1 ≤ s * s := Int.mul_le_mul_of_nonneg_left (by omega) (by omega)
    omega
  · obtain rfl : s = 0 := by omega
    omega

/-! ### Newton -/
theorem newton {x r : Int} (hx : 0 < x) (hr : 0 < r) (h : x < (r + 1) * (r + 1)) :
    (r ≤ (r + x / r) / 2 → IsRoot x r) ∧ ((r + x / r) / 2 < r → 0 < (r + x / r) / 2 ∧ x < ((r + x / r) / 2 + 1) * ((r + x / r) / 2 + 1)) := by
  have e := Int.mul_ediv_add_emod x r
  have m0 := Int.emod_nonneg x (show r ≠ 0 by omega)
  have m1 := Int.emod_lt_of_pos x hr
  have q0 : 0 ≤ x / r := Int.ediv_nonneg (by omega) (by omega)
  generalize x / r = q at *
  generalize x % r = m at *
  constructor
  · intro h1
    have h2 : r ≤ q := by omega
    have h3 : r * r ≤ r * q := Int.mul_le_mul_of_nonneg_left h2 (by omega)
    exact ⟨by omega, by omega, h⟩
  · intro h1
    constructor
    · rcases Int.lt_or_le 0 ((r + q) / 2) with h2 | h2
      · exact h2
      · have hq : q = 0 := by omega
        have hr1 : r = 1 := by omega
        subst hq
        subst hr1
        omega
    · have h2 : r + (q + 1) ≤ 2 * ((r + q) / 2 + 1) := by omega
      have h3 := sq_mono (a := r + (q + 1)) (b := 2 * ((r + q) / 2 + 1)) (by omega) h2
      generalize (r + q) / 2 + 1 = t at *
      have h4 : 4 * (r * (q + 1)) ≤ (r + (q + 1)) * (r + (q + 1)) := by
        have h5 : 0 ≤ (r - (q + 1)) * (r - (q + 1)) := by
          rcases Int.le_total 0 (r - (q + 1)) with h6 | h6
          · exact Int.mul_nonneg h6 h6
          · have := Int.mul_nonneg (show 0 ≤ -(r - (q + 1)) by omega) (show 0 ≤ -(r - (q + 1)) by omega)
            rwa [Int.neg_mul_neg] at this
        grind
      have h7 : r * (q + 1) = r * q + r := by grind
      have h8 : 2 * t * (2 * t) = 4 * (t * t) := by grind
      omega
theorem root_loop {x : List Int} (cx : Canon x) (sx : x.length ≤ 512) (hx : 0 < val x) (n : Nat) : ∀ r : List Int, Canon r → r.length ≤ 600 → 0 < val r → val x < (val r + 1) * (val r + 1) → val r ≤ n → ∃ s, IsRoot (val x) s ∧ Ev (fun k => nat_Root.l0 k x r) (num s, 0) := by
  induction n with
  | zero => intro r cr _ h _ h'; omega
  | succ n ih =>
    intro r cr sr hr hv hn
    obtain ⟨n1, n2⟩ := newton hx hr hv
    have rp := cr.len_pos hr
    have q0 : 0 ≤ val x / val r := Int.ediv_nonneg (by omega) (by omega)
    have q1 : val x / val r ≤ val x := Int.ediv_le_self _ (by omega)
    have ql : (num (val x / val r)).length ≤ 512 := num_len q0 (by have := val_512 cx.1 sx; omega)
    have ha := add_f cr.1 (num_canon q0).1 (by omega) (by omega)
    rw [num_val q0] at ha
    have s0 : 0 ≤ val r + val x / val r := by omega
    have e600 : pw 601 = 4294967296 * pw 600 := pw_succ 600
    have sl : (num (val r + val x / val r)).length ≤ 601 := num_len s0 (by have := val_512 cx.1 sx; have := val_512 cr.1 sr; have := pw_mono (show 512 ≤ 600 by omega); omega)
    have hs := right_f (num_canon s0).1 (n := 1) (by omega) (by omega)
    rw [num_val s0, show (2 : Int) ^ 1 = 2 by decide] at hs
    have t0 : 0 ≤ (val r + val x / val r) / 2 := by omega
    have tl : (num ((val r + val x / val r) / 2)).length ≤ 601 := num_len t0 (by have := val_512 (num_canon s0).1 sl; rw [num_val s0] at this; omega)
    have hc := compare_f (num_canon t0) cr (by omega)
    rw [num_val t0] at hc
    rcases Int.lt_or_le ((val r + val x / val r) / 2) (val r) with hlt | hle
    · obtain ⟨p1, p2⟩ := n2 hlt
      have tl2 : (num ((val r + val x / val r) / 2)).length ≤ 600 := num_len t0 (by have := val_512 cr.1 sr; omega)
      obtain ⟨s, h1, h2⟩ := ih (num ((val r + val x / val r) / 2)) (num_canon t0) tl2 (by rw [num_val t0]; exact p1) (by rw [num_val t0]; exact p2) (by rw [num_val t0]; omega)
      refine ⟨s, h1, ev_succ ?_⟩
      simp only [nat_Root.l0]
      exact Ev.bind (div_f cx cr rp (by omega) (by omega)) (Ev.bind ha (Ev.bind hs (Ev.bind hc (ev_else (fun c => by have := cmpI_nonneg.1 c; omega) h2))))
    · refine ⟨val r, n1 hle, ev_succ ?_⟩
      simp only [nat_Root.l0]
      rw [num_of cr]
      exact Ev.bind (div_f cx cr rp (by omega) (by omega)) (Ev.bind ha (Ev.bind hs (Ev.bind hc (ev_if (cmpI_nonneg.2 hle) (ev_some _)))))
/-- The list of a power of two. -/
theorem pow_list (s : Nat) : Canon (List.replicate (s / 32) 0 ++ [(2 : Int) ^ (s % 32)]) ∧ val (List.replicate (s / 32) 0 ++ [(2 : Int) ^ (s % 32)]) = 2 ^ s := by
  have h0 := two_pos (s % 32)
  have h1 := two_le (show s % 32 < 32 by omega)
  constructor
  · refine ⟨dig_append.2 ⟨dig_replicate _, dig_cons.2 ⟨⟨by omega, by omega⟩, dig_nil⟩⟩, .inr ?_⟩
    rw [List.length_append, List.length_replicate, List.length_singleton, Nat.add_sub_cancel, dg_append_right (by rw [List.length_replicate]; exact Nat.le_refl _), List.length_replicate, Nat.sub_self, dg_cons_zero]
    omega
  · rw [val_snoc, val_replicate, List.length_replicate, Int.zero_add, pw_two, ← Int.pow_add]
    congr 1
    omega
theorem w64h {b : Nat} (h : b ≤ 100000) : wrap64 (Int.tdiv (wrap64 ((b : Int) + 1)) 2) = (((b + 1) / 2 : Nat) : Int) := by
  rw [w64s b (by omega), show (2 : Int) = ((2 : Nat) : Int) from rfl, tdiv_nat, w64n (by omega)]
theorem Root_ok {x : List Int} (cx : Canon x) (sx : x.length ≤ 512) : ∃ s, IsRoot (val x) s ∧ Ev (fun k => nat_Root.f k x) (num s, 0) := by
  have f1 := form1 x (by omega)
  rw [fE_ok sx cx] at f1
  unfold nat_Root.f
  rcases Nat.eq_zero_or_pos x.length with h0 | h0
  · refine ⟨0, ?_, Ev.bind f1 (ev_if rfl (ev_if (by omega) (ev_some _)))⟩
    rw [List.eq_nil_of_length_eq_zero h0, val_nil]
    exact ⟨by decide, by decide, by decide⟩
  · obtain ⟨b, hb, b1, b2, b3, b4⟩ := size_f cx (by omega)
    have hv := cx.pos h0
    obtain ⟨cp, vp⟩ := pow_list ((b + 1) / 2)
    have lp : (List.replicate ((b + 1) / 2 / 32) 0 ++ [(2 : Int) ^ ((b + 1) / 2 % 32)]).length ≤ 600 := by
      rw [List.length_append, List.length_replicate, List.length_singleton]
      omega
    have h2 := two_pos ((b + 1) / 2)
    have hsq : val x < ((2 : Int) ^ ((b + 1) / 2) + 1) * (2 ^ ((b + 1) / 2) + 1) := by
      have h3 : (2 : Int) ^ b ≤ 2 ^ ((b + 1) / 2 + (b + 1) / 2) := two_mono (by omega)
      rw [Int.pow_add] at h3
      have h4 := sq_mono (a := 2 ^ ((b + 1) / 2)) (b := 2 ^ ((b + 1) / 2) + 1) (by omega) (by omega)
      omega
    obtain ⟨s, h1, h3⟩ := root_loop cx sx hv ((2 : Int) ^ ((b + 1) / 2)).toNat _ cp lp (by rw [vp]; exact h2) (by rw [vp]; exact hsq) (by rw [vp]; omega)
    refine ⟨s, h1, Ev.bind f1 (ev_if rfl (ev_else (by omega) (ev_val hb ?_)))⟩
    have b5 : b ≤ 16384 := by omega
    rw [w64h (by omega), td32 (by omega), Int.toNat_natCast]
    refine ev_if (by omega) (ev_if (by omega) (ev_val rfl (ev_val hb ?_)))
    rw [w64h (by omega), tm32, shl32_one (by omega)]
    refine ev_if (by omega) (ev_val rfl (ev_if ?_ h3))
    rw [List.length_replicate, List.length_singleton]
    omega

end Go.Proofs.Ytceglknbonfdeaa.PNat
