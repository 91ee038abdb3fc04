/- Numbers as decimal text: the reference's way to write, and both ways to read. No program. -/
import Derived.Test.YtceglknbonfdeaaN12
namespace Go.Proofs.Ytceglknbonfdeaa.PNat
open Go.RowKit Go.Proofs.YtceglknbonfdeaaW.PrintWords Go.Proofs.YtceglknbonfdeaaW.PrintLast Go.Proofs.YtceglknbonfdeaaW.PrintMore
set_option linter.unusedVariables false

/-! ### the reference's way to write -/
theorem rtext_l2 (x : List Int) (hs : x.length ≤ 1000000) (d : Nat) : ∀ (i : Nat) (y : List Int), Turned x y i → x.length / 2 = i + d → Ev (fun k => fluxionref01_Text.l2 k y (i : Int)) (strOfNums x.reverse) := by
  induction d with
  | zero =>
    intro i y h h1
    rw [← turned_end h (by omega)]
    have hl := h.1
    have c : ¬ (i : Int) < wrap64 ((y.length : Int) / 2) := by rw [w64 (by omega) (by omega)]; omega
    refine ev_succ ?_
    simp only [fluxionref01_Text.l2]
    exact ev_else c (ev_some _)
  | succ d ih =>
    intro i y h h1
    have hn := ih (i + 1) _ (turned_step h (by omega)) (by omega)
    have hl := h.1
    have e : wrap64 (wrap64 ((y.length : Int) - 1) - (i : Int)) = ((x.length - 1 - i : Nat) : Int) := by rw [w64p _ (by omega), w64 (by omega) (by omega)]; omega
    have c : (i : Int) < wrap64 ((y.length : Int) / 2) := by rw [w64 (by omega) (by omega)]; omega
    refine ev_succ ?_
    simp only [fluxionref01_Text.l2]
    rw [e]
    clear e
    refine ev_if c ?_
    clear c
    have c1 : ((x.length - 1 - i : Nat) : Int) < (y.length : Int) := by omega
    have c2 : (i : Int) < (y.length : Int) := by omega
    refine ev_if (by omega) (ev_if c2 (ev_if (by omega) (ev_if c1 (ev_eq (fun k => ?_) hn))))
    rw [rd_nat, rd_nat, Int.toNat_natCast, Int.toNat_natCast, w64s i (by omega)]
theorem lo_set_ge {l : List Int} {j i : Nat} (v : Int) (h : i ≤ j) : lo (l.set j v) i = lo l i := by unfold lo; rw [List.take_set_of_le h]
theorem rtext_l1 {x : List Int} (hx : Dig x) (hs : x.length ≤ 1000) (out : List Int) (ho : out.length ≤ 900000) (r : ByteArray)
    (next : Ev (fun k => fluxionref01_Text.l0 k (out ++ [48 + val x % 10]) (num (val x / 10))) r) (n : Nat) : ∀ (y : List Int) (c : Int), n ≤ x.length → y.length = x.length → Dig y → 0 ≤ c → c < 10 → lo y n = lo x n → hi x n = 10 * hi y n + c →
    Ev (fun k => fluxionref01_Text.l1 k out y c ((n : Int) - 1)) r := by
  induction n with
  | zero =>
    intro y c hn hl hd hc0 hc1 hlo hv
    rw [hi_zero, hi_zero] at hv
    have hq : val x / 10 = val y := by omega
    have hm : val x % 10 = c := by omega
    rw [hq, hm] at next
    have h := rshort_f y (by omega)
    rw [tr_num hd rfl] at h
    refine ev_succ ?_
    simp only [fluxionref01_Text.l1]
    refine ev_else (by omega) (ev_if (small_lt' (by omega)) (Ev.bind h (ev_eq (fun k => ?_) next)))
    rw [u64_eq (by omega) (by omega), show (48 + c) % 256 = 48 + c by omega]
  | succ n ih =>
    intro y c hn hl hd hc0 hc1 hlo hv
    have h1 := dg_dig hx n
    have hlt : n < y.length := by omega
    have hdy : dg y n = dg x n := by
      have a1 := lo_succ y n
      have a2 := lo_succ x n
      have a3 := lo_lt (l := y) hd n
      have a4 := lo_lt hx n
      have a5 := lo_nonneg (l := y) hd n
      have a6 := lo_nonneg hx n
      rw [hlo, a2] at a1
      have e1 : (lo x n + pw n * dg x n) / pw n = dg x n := by rw [Int.add_mul_ediv_left _ _ (by have := pw_pos n; omega), Int.ediv_eq_zero_of_lt a6 a4, Int.zero_add]
      have e2 : (lo y n + pw n * dg y n) / pw n = dg y n := by rw [Int.add_mul_ediv_left _ _ (by have := pw_pos n; omega), Int.ediv_eq_zero_of_lt a5 a3, Int.zero_add]
      rw [← e1, ← e2, a1]
    have hlo2 : lo y n = lo x n := by
      have a1 := lo_succ y n
      have a2 := lo_succ x n
      rw [hlo, a2, hdy] at a1
      omega
    obtain ⟨w0, w1, w2, w3, w4, w5, w6⟩ := wide_bound hc0 hc1 (by decide) h1
    have hn2 := ih (y.set n ((c * 4294967296 + dg x n) / 10)) ((c * 4294967296 + dg x n) % 10) (by omega) (by rw [List.length_set]; exact hl) (dig_set hd ⟨w3, w2⟩) w4 w5 (by rw [lo_set_ge _ (Nat.le_refl _)]; exact hlo2) (by
      rw [hi_set_self _ hlt, hi_step x n, hv]
      omega)
    have c1 : n ≤ 2000000 := by omega
    have c3 : (n : Int) < (y.length : Int) := by omega
    rw [pred_succ]
    refine ev_succ ?_
    simp only [fluxionref01_Text.l1]
    refine ev_if (by omega) (ev_if (by omega) (ev_if c3 (ev_eq (fun k => ?_) hn2)))
    rw [rd_nat, hdy, u64_eq (x := dg x n) h1.1 (by omega), u64_eq (x := c * 4294967296) (by omega) (by omega), or64 hc0 (by omega) h1.1 h1.2,
      Int.tdiv_eq_ediv_of_nonneg w0, Int.tmod_eq_emod_of_nonneg w0, u64_eq w3 (by omega), Int.emod_eq_of_lt w3 w2, Int.toNat_natCast, w64p n c1]
theorem rtext_l0 (V : Int) (n : Nat) : ∀ (x y : List Int), Canon x → x.length ≤ 512 → val x < 10 ^ n → y.length + n ≤ 600000 → y ++ dec (val x) = dec V → Ev (fun k => fluxionref01_Text.l0 k y x) (strOfNums (dec V).reverse) := by
  have stop : ∀ y : List Int, y.length ≤ 600000 → y ++ dec 0 = dec V → Ev (fun k => fluxionref01_Text.l0 k y []) (strOfNums (dec V).reverse) := fun y hy h => by
    rw [dec_zero, List.append_nil] at h
    rw [← h]
    refine ev_succ ?_
    simp only [fluxionref01_Text.l0]
    exact ev_else (by decide) (rtext_l2 y (by omega) (y.length / 2) 0 y (turned_zero y) (by omega))
  induction n with
  | zero =>
    intro x y cx sx hx hy h
    have v0 := val_nonneg cx.1
    have hz : val x = 0 := by rw [Int.pow_zero] at hx; omega
    have h0 := cx.zero.1 hz
    subst h0
    exact stop y (by omega) h
  | succ n ih =>
    intro x y cx sx hx hy h
    have v0 := val_nonneg cx.1
    rcases Nat.eq_zero_or_pos x.length with h0 | h0
    · obtain rfl := List.eq_nil_of_length_eq_zero h0
      exact stop y (by omega) h
    · have hv := cx.pos h0
      have q0 : 0 ≤ val x / 10 := by omega
      have ql : (num (val x / 10)).length ≤ 512 := num_len q0 (by have := val_512 cx.1 sx; omega)
      have hn := ih (num (val x / 10)) (y ++ [48 + val x % 10]) (num_canon q0) ql (by
          rw [num_val q0]
          rw [Int.pow_succ] at hx
          exact Int.ediv_lt_of_lt_mul (by decide) hx) (by rw [List.length_append, List.length_singleton]; omega) (by
          rw [num_val q0, List.append_assoc, ← h, dec_step hv]
          rfl)
      have h1 := rtext_l1 cx.1 (by omega) y (by omega) _ hn x.length x 0 (Nat.le_refl _) rfl cx.1 (by decide) (by decide) rfl (by rw [hi_all (Nat.le_refl _)]; rfl)
      refine ev_succ ?_
      simp only [fluxionref01_Text.l0]
      refine ev_if (by omega) (ev_eq (fun k => ?_) h1)
      rw [w64p _ (by omega)]
theorem ten_power {n : Nat} (h : n ≤ 512) : pw n ≤ 10 ^ (10 * n) := by
  induction n with
  | zero => decide
  | succ n ih =>
    have := ih (by omega)
    have h1 := ten_pos (10 * n)
    rw [pw_succ, show 10 * (n + 1) = 10 * n + 10 by omega, Int.pow_add, show (10 : Int) ^ 10 = 10000000000 by decide]
    omega
theorem rtext_f {x : List Int} (cx : Canon x) (sx : x.length ≤ 512) : Ev (fun k => fluxionref01_Text.f k x) (if x.length = 0 then (⟨#[48]⟩ : ByteArray) else strOfNums (dec (val x)).reverse) := by
  unfold fluxionref01_Text.f
  rcases Nat.eq_zero_or_pos x.length with h0 | h0
  · rw [if_pos h0]
    exact ev_if (by omega) (ev_some _)
  · rw [if_neg (by omega)]
    refine ev_else (by omega) (ev_val rfl (ev_if (by rw [List.length_nil, Nat.zero_add]; exact small_lt (by omega)) ?_))
    rw [List.nil_append]
    exact rtext_l0 (val x) (10 * x.length) x [] cx sx (by have := val_lt cx.1; have := ten_power sx; omega) (by rw [List.length_nil]; omega) (by rw [List.nil_append])

/-! ### reading: one more digit -/
theorem canon_of_ge {y : List Int} (hd : Dig y) (h : 0 < y.length → pw (y.length - 1) ≤ val y) : Canon y := by
  refine ⟨hd, ?_⟩
  rcases Nat.eq_zero_or_pos y.length with h0 | h0
  · exact .inl (List.eq_nil_of_length_eq_zero h0)
  · refine .inr fun h1 => ?_
    have h2 := h h0
    have e1 := lo_succ y (y.length - 1)
    rw [show y.length - 1 + 1 = y.length by omega, lo_all (Nat.le_refl _), h1, Int.mul_zero, Int.add_zero] at e1
    have := lo_lt hd (y.length - 1)
    omega
/-- The list after the carry has been put behind it, where there is one. -/
theorem carry_end {x y : List Int} (cx : Canon x) (hy : Dig y) (hl : y.length = x.length) {c d : Int} (d0 : 0 ≤ d) (c0 : 0 ≤ c) (c1 : c < 10) (hv : val y + pw x.length * c = 10 * val x + d) :
    (0 < c → y ++ [c] = num (10 * val x + d)) ∧ (c = 0 → y = num (10 * val x + d)) := by
  have vx := val_nonneg cx.1
  constructor
  · intro h
    refine (num_eq (v := 10 * val x + d) ⟨dig_append.2 ⟨hy, dig_cons.2 ⟨⟨c0, by omega⟩, dig_nil⟩⟩, .inr ?_⟩ ?_).symm
    · rw [List.length_append, List.length_singleton, Nat.add_sub_cancel, dg_append_right (Nat.le_refl _), Nat.sub_self, dg_cons_zero]
      omega
    · rw [val_snoc, hl]
      exact hv
  · intro h
    subst h
    rw [Int.mul_zero, Int.add_zero] at hv
    refine (num_eq (canon_of_ge hy fun h => ?_) hv).symm
    rw [hl] at h ⊢
    have := cx.ge h
    omega
theorem parse_l1 (a : ByteArray) (n : Int) (i : Nat) {x : List Int} (cx : Canon x) (sx : x.length ≤ 100000) {d0 : Int} (hd0 : 0 ≤ d0) (r : List Int × Int) (next : Ev (fun k => nat_Parse.l0 k a (num (10 * val x + d0)) n (wrap64 ((i : Int) + 1))) r) (d : Nat) :
    ∀ (j : Nat) (y : List Int) (c : Int), x.length = j + d → y.length = x.length → Dig y → 0 ≤ c → c < 10 → hi y j = hi x j → lo y j + pw j * c = 10 * lo x j + d0 →
    Ev (fun k => nat_Parse.l1 k a y c n (i : Int) (x.length : Int) (j : Int)) r := by
  induction d with
  | zero =>
    intro j y c hj hl hd c0 c1 hh hv
    obtain rfl : j = x.length := by omega
    rw [lo_all (by omega), lo_all (Nat.le_refl _)] at hv
    obtain ⟨e1, e2⟩ := carry_end cx hd hl hd0 c0 c1 hv
    refine ev_succ ?_
    simp only [nat_Parse.l1]
    refine ev_else (by omega) ?_
    rcases Int.lt_or_le 0 c with hp | hp
    · rw [← e1 hp] at next
      refine ev_if hp (ev_if (small_lt (by omega)) (ev_eq (fun k => ?_) next))
      rw [show c % 4294967296 = c by omega]
    · rw [← e2 (by omega)] at next
      exact ev_else (by omega) next
  | succ d ih =>
    intro j y c hj hl hd c0 c1 hh hv
    have h1 := dg_dig hd j
    have hlt : j < y.length := by omega
    have hdj : dg y j = dg x j ∧ hi y (j + 1) = hi x (j + 1) := by
      have e1 := hi_step y j
      have e2 := hi_step x j
      rw [hh, e2] at e1
      have e4 := dg_dig cx.1 j
      omega
    have b0 : 0 ≤ c + 10 * dg y j := by omega
    have hn := ih (j + 1) (y.set j ((c + 10 * dg y j) % 4294967296)) ((c + 10 * dg y j) / 4294967296) (by omega) (by rw [List.length_set]; exact hl) (dig_set hd (by omega)) (by omega) (by omega) (by rw [hi_set_lt _ (Nat.lt_succ_self _)]; exact hdj.2) (by
      rw [lo_succ, lo_succ x j, lo_set_ge _ (Nat.le_refl _), dg_set _ _ hlt, if_pos rfl, ← hdj.1, pw_succ]
      generalize hs : c + 10 * dg y j = s at *
      have h4 : pw j * s = pw j * (s % 4294967296) + 4294967296 * pw j * (s / 4294967296) := by
        conv => lhs; rw [← Int.emod_add_mul_ediv s 4294967296]
        grind
      grind)
    have k1 : (j : Int) < (x.length : Int) := by omega
    have k2 : (j : Int) < (y.length : Int) := by omega
    have k3 : j ≤ 2000000 := by omega
    refine ev_succ ?_
    simp only [nat_Parse.l1]
    refine ev_if k1 (ev_if (by omega) (ev_if k2 (ev_eq (fun k => ?_) hn)))
    rw [rd_nat, u64_eq (x := dg y j) h1.1 (by omega), u64_eq (x := 10 * dg y j) (by omega) (by omega), u64_eq (x := c + 10 * dg y j) (by omega) (by omega), Int.toNat_natCast, w64s j k3]
theorem rdec_l1 (a : ByteArray) (i : Nat) {x : List Int} (cx : Canon x) (sx : x.length ≤ 100000) {d0 : Int} (hd0 : 0 ≤ d0) (r : List Int) (next : Ev (fun k => fluxionref01_Decimal.l0 k a (num (10 * val x + d0)) (wrap64 ((i : Int) + 1))) r) (d : Nat) :
    ∀ (j : Nat) (y : List Int) (c : Int), x.length = j + d → y.length = x.length → Dig y → 0 ≤ c → c < 10 → hi y j = hi x j → lo y j + pw j * c = 10 * lo x j + d0 →
    Ev (fun k => fluxionref01_Decimal.l1 k a y (i : Int) c (j : Int)) r := by
  induction d with
  | zero =>
    intro j y c hj hl hd c0 c1 hh hv
    obtain rfl : j = x.length := by omega
    rw [lo_all (by omega), lo_all (Nat.le_refl _)] at hv
    obtain ⟨e1, e2⟩ := carry_end cx hd hl hd0 c0 c1 hv
    refine ev_succ ?_
    simp only [fluxionref01_Decimal.l1]
    refine ev_else (by omega) ?_
    rcases Int.lt_or_le 0 c with hp | hp
    · rw [← e1 hp] at next
      refine ev_if hp (ev_if (small_lt (by omega)) (ev_eq (fun k => ?_) next))
      rw [show c % 4294967296 = c by omega]
    · rw [← e2 (by omega)] at next
      exact ev_else (by omega) next
  | succ d ih =>
    intro j y c hj hl hd c0 c1 hh hv
    have h1 := dg_dig hd j
    have hlt : j < y.length := by omega
    have hdj : dg y j = dg x j ∧ hi y (j + 1) = hi x (j + 1) := by
      have e1 := hi_step y j
      have e2 := hi_step x j
      rw [hh, e2] at e1
      have e4 := dg_dig cx.1 j
      omega
    have b0 : 0 ≤ 10 * dg y j + c := by omega
    have hn := ih (j + 1) (y.set j ((10 * dg y j + c) % 4294967296)) ((10 * dg y j + c) / 4294967296) (by omega) (by rw [List.length_set]; exact hl) (dig_set hd (by omega)) (by omega) (by omega) (by rw [hi_set_lt _ (Nat.lt_succ_self _)]; exact hdj.2) (by
      rw [lo_succ, lo_succ x j, lo_set_ge _ (Nat.le_refl _), dg_set _ _ hlt, if_pos rfl, ← hdj.1, pw_succ]
      generalize hs : 10 * dg y j + c = s at *
      have h4 : pw j * s = pw j * (s % 4294967296) + 4294967296 * pw j * (s / 4294967296) := by
        conv => lhs; rw [← Int.emod_add_mul_ediv s 4294967296]
        grind
      grind)
    have k2 : (j : Int) < (y.length : Int) := by omega
    have k3 : j ≤ 2000000 := by omega
    refine ev_succ ?_
    simp only [fluxionref01_Decimal.l1]
    refine ev_if k2 (ev_if (by omega) (ev_eq (fun k => ?_) hn))
    rw [rd_nat, u64_eq (x := dg y j) h1.1 (by omega), u64_eq (x := 10 * dg y j) (by omega) (by omega), u64_eq (x := 10 * dg y j + c) (by omega) (by omega), Int.toNat_natCast, w64s j k3]
end Go.Proofs.Ytceglknbonfdeaa.PNat
