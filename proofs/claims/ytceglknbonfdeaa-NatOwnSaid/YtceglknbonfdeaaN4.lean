/- Lists of a fixed number of digits; shifts to the left and to the right; what 'take' and 'give' make of a piece. No program. -/
import Derived.Test.YtceglknbonfdeaaN3
namespace Go.Proofs.Ytceglknbonfdeaa.PNat
open Go.RowKit Go.Proofs.YtceglknbonfdeaaW.PrintWords Go.Proofs.YtceglknbonfdeaaW.PrintLast Go.Proofs.YtceglknbonfdeaaW.PrintMore
set_option linter.unusedVariables false

/-! ### so many digits -/
def fixd : Nat → Int → List Int
  | 0, _ => []
  | n + 1, v => (v % 4294967296) :: fixd n (v / 4294967296)
theorem fixd_length (n : Nat) (v : Int) : (fixd n v).length = n := by
  induction n generalizing v with
  | zero => rfl
  | succ n ih => rw [fixd, List.length_cons, ih]
theorem fixd_dig (n : Nat) (v : Int) : Dig (fixd n v) := by
  induction n generalizing v with
  | zero => exact dig_nil
  | succ n ih => exact dig_cons.2 ⟨by omega, ih _⟩
theorem fixd_val (n : Nat) {v : Int} (h0 : 0 ≤ v) (h1 : v < pw n) : val (fixd n v) = v := by
  induction n generalizing v with
  | zero => rw [pw_zero] at h1; rw [fixd, val_nil]; omega
  | succ n ih =>
    rw [pw_succ] at h1
    rw [fixd, val_cons, ih (by omega) (by omega)]
    omega
theorem fixd_eq {l : List Int} {n : Nat} {v : Int} (hd : Dig l) (hl : l.length = n) (hv : val l = v) : l = fixd n v := by
  have h0 := val_nonneg hd
  have h1 := val_lt hd
  rw [hl] at h1
  exact val_inj hd (fixd_dig n v) (by rw [hl, fixd_length]) (by rw [hv, fixd_val n (by omega) (by omega)])
theorem tr_fixd (n : Nat) {v : Int} (h0 : 0 ≤ v) (h1 : v < pw n) : tr (fixd n v) = num v := tr_num (fixd_dig n v) (fixd_val n h0 h1)
theorem or32_comm {a b : Int} (ha : 0 ≤ a) (ha1 : a < 4294967296) (hb : 0 ≤ b) (hb1 : b < 4294967296) : Go.bits .or .u32 a b = Go.bits .or .u32 b a := by
  obtain ⟨a, rfl⟩ := Int.eq_ofNat_of_zero_le ha
  obtain ⟨b, rfl⟩ := Int.eq_ofNat_of_zero_le hb
  have e : (2 : Nat) ^ 32 = 4294967296 := by decide
  have e2 : (2 : Int) ^ 32 = 4294967296 := by decide
  have hk : ∀ n : Int, 0 ≤ n → n < 2 ^ 32 → IntKind.u32.wrap n = n := fun n h0 h1 => u32_eq h0 (by rw [e2] at h1; exact h1)
  rw [(bits_nat .u32 32 (by decide) hk a b (by omega) (by omega)).2, (bits_nat .u32 32 (by decide) hk b a (by omega) (by omega)).2, Nat.or_comm]

/-! ### powers of two -/
theorem two_pos (n : Nat) : (0 : Int) < 2 ^ n := Int.pow_pos (by decide)
theorem two_split {n : Nat} (h : n ≤ 32) : (2 : Int) ^ n * 2 ^ (32 - n) = 4294967296 := by
  rw [← Int.pow_add, show n + (32 - n) = 32 by omega]
  decide
theorem two_le {n : Nat} (h : n < 32) : (2 : Int) ^ n ≤ 2147483648 := by
  have h1 := two_split (show n ≤ 32 by omega)
  have h2 : (2 : Int) ^ (32 - n) = 2 * 2 ^ (31 - n) := by rw [show 32 - n = (31 - n) + 1 by omega, Int.pow_succ, Int.mul_comm]
  have h3 := two_pos n
  have h4 := two_pos (31 - n)
  have h5 : (2 : Int) ^ n * 1 ≤ 2 ^ n * 2 ^ (31 - n) := Int.mul_le_mul_of_nonneg_left (by omega) (by omega)
  have h6 : (2 : Int) ^ n * (2 * 2 ^ (31 - n)) = 2 * (2 ^ n * 2 ^ (31 - n)) := by grind
  rw [h2, h6] at h1
  omega
/-- A digit, moved by n: what stays in its place, and what goes on. -/
theorem wide_left {d P Q : Int} (hd : 0 ≤ d ∧ d < 4294967296) (hP : 0 < P) (hP1 : P ≤ 2147483648) (hPQ : P * Q = 4294967296) :
    0 ≤ d * P ∧ d * P < 18446744073709551616 ∧ (d * P) % 4294967296 % P = 0 ∧ 0 ≤ d * P / 4294967296 ∧ d * P / 4294967296 < P := by
  have h0 : 0 ≤ d * P := Int.mul_nonneg hd.1 (by omega)
  have h1 : d * P ≤ 4294967295 * P := Int.mul_le_mul_of_nonneg_right (by omega) (by omega)
  have h2 : (d * P) % 4294967296 = P * (d - Q * (d * P / 4294967296)) := by
    have h3 := Int.mul_ediv_add_emod (d * P) 4294967296
    grind
  refine ⟨h0, by omega, ?_, by omega, ?_⟩
  · rw [h2]; exact Int.mul_emod_right _ _
  · exact Int.ediv_lt_of_lt_mul (by omega) (by omega)
theorem shl64 {d : Int} {n : Nat} (hd : 0 ≤ d ∧ d < 4294967296) (hn : n < 32) : shl .u64 (IntKind.u64.wrap d) (n : Int) = d * 2 ^ n := by
  obtain ⟨h0, h1, _⟩ := wide_left hd (two_pos n) (two_le hn) (two_split (by omega))
  unfold shl
  rw [u64_eq hd.1 (by omega), Int.toNat_natCast, Nat.min_eq_left (show n ≤ IntKind.u64.bits by simp only [IntKind.bits]; omega), u64_eq h0 h1]

/-! ### to the left -/
theorem left_loop {x : List Int} (hx : Dig x) {n : Nat} (hn : n < 32) (hs : x.length ≤ 1000000) (d : Nat) : ∀ (i : Nat) (out : List Int), x.length = i + d → out.length = x.length + 1 → Dig out → (∀ j, i < j → dg out j = 0) → dg out i < 2 ^ n → val out = lo x i * 2 ^ n →
    Ev (fun k => nat_left.l0 k (n : Int) out x (x.length : Int) (i : Int)) (fixd (x.length + 1) (val x * 2 ^ n)) := by
  have hP := two_pos n
  have hP1 := two_le hn
  have hPQ := two_split (show n ≤ 32 by omega)
  induction d with
  | zero =>
    intro i out hi hl hd hz hc hv
    rw [lo_all (by omega)] at hv
    rw [← fixd_eq hd hl hv]
    refine ev_now fun k => ?_
    simp only [nat_left.l0]
    rw [if_neg (by omega)]
  | succ d ih =>
    intro i out hi hl hd hz hc hv
    have h1 := dg_dig hx i
    have h2 := dg_dig hd i
    obtain ⟨w0, w1, w2, w3, w4⟩ := wide_left h1 hP hP1 hPQ
    have hlt : i < out.length := by omega
    have hlt2 : i + 1 < (out.set i (dg out i + dg x i * 2 ^ n % 4294967296)).length := by rw [List.length_set]; omega
    have hor : Go.bits .or .u32 (dg out i) (dg x i * 2 ^ n % 4294967296) = dg out i + dg x i * 2 ^ n % 4294967296 := by
      rw [or32_comm h2.1 h2.2 (by omega) (by omega), or32 n (by omega) (by omega) w2 h2.1 hc h2.2, Int.add_comm]
    have hsum : dg out i + dg x i * 2 ^ n % 4294967296 < 4294967296 := by
      have h3 := Int.mul_ediv_add_emod (dg x i * 2 ^ n % 4294967296) (2 ^ n)
      rw [w2] at h3
      have h4 : 2 ^ n * (dg x i * 2 ^ n % 4294967296 / 2 ^ n) < 2 ^ n * 2 ^ (32 - n) := by rw [hPQ]; omega
      have h5 := Int.lt_of_mul_lt_mul_left h4 (by omega)
      have h6 : 2 ^ n * (dg x i * 2 ^ n % 4294967296 / 2 ^ n + 1) ≤ 2 ^ n * 2 ^ (32 - n) := Int.mul_le_mul_of_nonneg_left (by omega) (by omega)
      rw [hPQ, Int.mul_add, Int.mul_one] at h6
      omega
    have hd2 := dig_set hd (i := i) (v := dg out i + dg x i * 2 ^ n % 4294967296) ⟨by omega, hsum⟩
    have hb : dg x i * 2 ^ n / 4294967296 < 4294967296 := by omega
    have hz1 : dg (out.set i (dg out i + dg x i * 2 ^ n % 4294967296)) (i + 1) = 0 := by rw [dg_set _ _ hlt, if_neg (by omega)]; exact hz _ (by omega)
    have h := ih (i + 1) ((out.set i (dg out i + dg x i * 2 ^ n % 4294967296)).set (i + 1) (dg x i * 2 ^ n / 4294967296)) (by omega) (by rw [List.length_set, List.length_set]; exact hl)
      (dig_set hd2 ⟨w3, hb⟩) (fun j hj => by rw [dg_set _ _ hlt2, if_neg (by omega), dg_set _ _ hlt, if_neg (by omega)]; exact hz j (by omega))
      (by rw [dg_set _ _ hlt2, if_pos rfl]; exact w4) (by
        rw [val_set _ hlt2, val_set _ hlt, hz1, lo_succ, hv, pw_succ]
        have h3 := Int.mul_ediv_add_emod (dg x i * 2 ^ n) 4294967296
        have h4 : pw i * (dg x i * 2 ^ n) = pw i * (dg x i * 2 ^ n % 4294967296) + 4294967296 * pw i * (dg x i * 2 ^ n / 4294967296) := by
          conv => lhs; rw [← h3]
          grind
        grind)
    have c1 : (i : Int) < (x.length : Int) := by omega
    have c2 : (i : Int) < (out.length : Int) := by omega
    have c3 : ((i + 1 : Nat) : Int) < (out.length : Int) := by omega
    have c4 : i ≤ 2000000 := by omega
    refine Ev.step (fun k => ?_) h
    simp only [nat_left.l0]
    rw [if_pos c1, if_pos (by omega), if_pos c1, if_pos (by omega), if_pos c2, w64s i c4, if_pos (by omega), if_pos c3, rd_nat, rd_nat, shl64 h1 hn, hor, Int.toNat_natCast, Int.toNat_natCast, Int.emod_eq_of_lt w3 hb]
theorem left_f {x : List Int} (hx : Dig x) {n : Nat} (hn : n < 32) (hs : x.length ≤ 1000000) : Ev (fun k => nat_left.f k x (n : Int)) (fixd (x.length + 1) (val x * 2 ^ n)) := by
  have h := left_loop hx hn hs x.length 0 (List.replicate (x.length + 1) 0) (by omega) (by simp) (dig_replicate _) (fun j _ => dg_replicate _ j) (by rw [dg_replicate]; exact two_pos n) (by rw [val_replicate, lo_zero, Int.zero_mul])
  refine ev_eq (fun k => ?_) h
  unfold nat_left.f
  rw [w64s _ (by omega), if_pos (by omega), Int.toNat_natCast, if_pos (by omega)]
  rfl

/-! ### to the right -/
theorem right_digit {d P Q : Int} (hd : 0 ≤ d ∧ d < 4294967296) (hP : 0 < P) (hQ : 0 < Q) (hPQ : P * Q = 4294967296) :
    0 ≤ d * 4294967296 / P ∧ d * 4294967296 / P % 4294967296 = (d % P) * Q ∧ 0 ≤ (d % P) * Q ∧ (d % P) * Q < 4294967296 ∧ 0 ≤ d / P ∧ d / P < Q := by
  have e : d * 4294967296 / P = d * Q := by rw [← hPQ, show d * (P * Q) = P * (d * Q) by grind, Int.mul_ediv_cancel_left _ (by omega)]
  have h1 := Int.mul_ediv_add_emod d P
  have h2 := Int.emod_nonneg d (show P ≠ 0 by omega)
  have h3 := Int.emod_lt_of_pos d hP
  have h4 : d * Q = (d % P) * Q + 4294967296 * (d / P) := by rw [← hPQ]; grind
  have h5 : 0 ≤ (d % P) * Q := Int.mul_nonneg h2 (by omega)
  have h6 : (d % P + 1) * Q ≤ P * Q := Int.mul_le_mul_of_nonneg_right (by omega) (by omega)
  have h7 : (d % P) * Q < 4294967296 := by rw [hPQ, Int.add_mul, Int.one_mul] at h6; omega
  refine ⟨by rw [e]; exact Int.mul_nonneg hd.1 (by omega), ?_, h5, h7, Int.ediv_nonneg hd.1 (by omega), Int.ediv_lt_of_lt_mul hP (by rw [Int.mul_comm, hPQ]; exact hd.2)⟩
  rw [e, h4, Int.add_mul_emod_self_left, Int.emod_eq_of_lt h5 h7]
theorem shr32 {d : Int} {n : Nat} (hn : n < 32) : shr .u32 d (n : Int) = d / 2 ^ n := by
  unfold shr
  rw [Int.toNat_natCast, Nat.min_eq_left (show n ≤ IntKind.u32.bits by simp only [IntKind.bits]; omega)]
theorem shr64 {d : Int} {n : Nat} (hn : n ≤ 64) : shr .u64 d (n : Int) = d / 2 ^ n := by
  unfold shr
  rw [Int.toNat_natCast, Nat.min_eq_left (show n ≤ IntKind.u64.bits by simp only [IntKind.bits]; omega)]
theorem right_loop {x : List Int} (hx : Dig x) {n : Nat} (hn : n < 32) (hs : x.length ≤ 1000000) (d : Nat) : ∀ (i : Nat) (out : List Int), x.length = i + d → out.length = x.length → Dig out → (∀ j, i ≤ j → dg out j = 0) → (0 < i → dg out (i - 1) < 2 ^ (32 - n)) → val out = lo x i / 2 ^ n →
    Ev (fun k => nat_right.l0 k (n : Int) out x (x.length : Int) (i : Int)) (num (val x / 2 ^ n)) := by
  have hP := two_pos n
  have hQ := two_pos (32 - n)
  have hPQ := two_split (show n ≤ 32 by omega)
  induction d with
  | zero =>
    intro i out hi hl hd hz hc hv
    rw [lo_all (by omega)] at hv
    refine Ev.step (f := fun k => (nat_trim.f k out).bind fun t => some t) (fun k => ?_) ?_
    · simp only [nat_right.l0]
      rw [if_neg (by omega)]
    · rw [← tr_num hd hv]
      exact Ev.bind (trim_f _ (by omega)) (ev_some _)
  | succ d ih =>
    intro i out hi hl hd hz hc hv
    have h1 := dg_dig hx i
    obtain ⟨w0, w1, w2, w3, w4, w5⟩ := right_digit h1 hP hQ hPQ
    have hlt : i < out.length := by omega
    have hQ1 : (2 : Int) ^ (32 - n) ≤ 4294967296 := by
      have : (2 : Int) ^ (32 - n) * 1 ≤ 2 ^ (32 - n) * 2 ^ n := Int.mul_le_mul_of_nonneg_left (by omega) (by omega)
      rw [Int.mul_comm (2 ^ (32 - n)) (2 ^ n), hPQ] at this
      omega
    have hor0 : Go.bits .or .u32 (dg out i) (dg x i / 2 ^ n) = dg x i / 2 ^ n := by rw [hz i (Nat.le_refl _)]; exact or32_zero w4 (by omega)
    have hd2 := dig_set hd (i := i) (v := dg x i / 2 ^ n) ⟨w4, by omega⟩
    have c1 : (i : Int) < (x.length : Int) := by omega
    have c2 : (i : Int) < (out.length : Int) := by omega
    have c4 : i ≤ 2000000 := by omega
    have hv1 : val (out.set i (dg x i / 2 ^ n)) = val out + pw i * (dg x i / 2 ^ n) := by rw [val_set _ hlt, hz i (Nat.le_refl _), Int.sub_zero]
    cases i with
    | zero =>
      have h := ih 1 (out.set 0 (dg x 0 / 2 ^ n)) (by omega) (by rw [List.length_set]; exact hl) hd2 (fun j hj => by rw [dg_set _ _ hlt, if_neg (by omega)]; exact hz j (by omega))
        (fun _ => by rw [dg_set _ _ hlt, if_pos rfl]; exact w5) (by
          rw [hv1, hv, lo_succ, lo_zero, pw_zero, Int.one_mul, Int.one_mul, Int.zero_ediv, Int.zero_add, Int.zero_add])
      refine Ev.step (fun k => ?_) h
      simp only [nat_right.l0]
      rw [if_pos c1, if_pos (by omega), if_pos c1, if_pos c2, if_pos (by omega), Option.bind_some, if_neg (by omega), rd_nat, rd_nat, shr32 hn, hor0, Int.toNat_natCast, w64s 0 c4]
    | succ j =>
      have hltj : j < (out.set (j + 1) (dg x (j + 1) / 2 ^ n)).length := by rw [List.length_set]; omega
      have hdj : dg (out.set (j + 1) (dg x (j + 1) / 2 ^ n)) j = dg out j := by rw [dg_set _ _ hlt, if_neg (by omega)]
      have hcj : dg out j < 2 ^ (32 - n) := hc (by omega)
      have hj0 := dg_dig hd j
      have hor : Go.bits .or .u32 (dg out j) ((dg x (j + 1) % 2 ^ n) * 2 ^ (32 - n)) = dg out j + (dg x (j + 1) % 2 ^ n) * 2 ^ (32 - n) := by
        rw [or32_comm hj0.1 hj0.2 w2 w3, or32 (32 - n) w2 w3 (Int.mul_emod_left _ _) hj0.1 hcj hj0.2, Int.add_comm]
      have hsum : dg out j + (dg x (j + 1) % 2 ^ n) * 2 ^ (32 - n) < 4294967296 := by
        have h3 := Int.emod_lt_of_pos (dg x (j + 1)) hP
        have h6 : (dg x (j + 1) % 2 ^ n + 1) * 2 ^ (32 - n) ≤ 2 ^ n * 2 ^ (32 - n) := Int.mul_le_mul_of_nonneg_right (by omega) (by omega)
        rw [hPQ, Int.add_mul, Int.one_mul] at h6
        omega
      have h := ih (j + 1 + 1) ((out.set (j + 1) (dg x (j + 1) / 2 ^ n)).set j (dg out j + (dg x (j + 1) % 2 ^ n) * 2 ^ (32 - n))) (by omega) (by rw [List.length_set, List.length_set]; exact hl)
        (dig_set hd2 ⟨by omega, hsum⟩) (fun q hq => by rw [dg_set _ _ hltj, if_neg (by omega), dg_set _ _ hlt, if_neg (by omega)]; exact hz q (by omega))
        (fun _ => by rw [dg_set _ _ hltj, if_neg (by omega), dg_set _ _ hlt, if_pos (by omega)]; exact w5) (by
          rw [val_set _ hltj, hdj, hv1, hv, lo_succ x (j + 1)]
          have h3 := Int.mul_ediv_add_emod (dg x (j + 1)) (2 ^ n)
          have h4 : lo x (j + 1) + pw (j + 1) * dg x (j + 1) = lo x (j + 1) + 2 ^ n * (pw (j + 1) * (dg x (j + 1) / 2 ^ n) + pw j * ((dg x (j + 1) % 2 ^ n) * 2 ^ (32 - n))) := by
            conv => lhs; rw [← h3]
            rw [pw_succ, ← hPQ]
            grind
          rw [h4, Int.add_mul_ediv_left _ _ (by omega)]
          grind)
      have c3 : (j : Int) < (out.length : Int) := by omega
      have c5 : j ≤ 2000000 := by omega
      refine Ev.step (fun k => ?_) h
      simp only [nat_right.l0]
      rw [if_pos c1, if_pos (by omega), if_pos c1, if_pos c2, if_pos (by omega), Option.bind_some, if_pos (by omega), w64q j c5, if_pos (by omega), if_pos c3, rd_nat, rd_nat, rd_nat, shr32 hn, hor0, Int.toNat_natCast, Int.toNat_natCast, hdj,
        u64_eq (x := dg x (j + 1)) h1.1 (by omega), u64_eq (x := dg x (j + 1) * 4294967296) (by omega) (by omega), shr64 (by omega), w1, hor, w64s (j + 1) c4]
theorem right_f {x : List Int} (hx : Dig x) {n : Nat} (hn : n < 32) (hs : x.length ≤ 1000000) : Ev (fun k => nat_right.f k x (n : Int)) (num (val x / 2 ^ n)) := by
  have h := right_loop hx hn hs x.length 0 (List.replicate x.length 0) (by omega) (by simp) (dig_replicate _) (fun j _ => dg_replicate _ j) (fun h => absurd h (by omega)) (by rw [val_replicate, lo_zero, Int.zero_ediv])
  refine ev_eq (fun k => ?_) h
  unfold nat_right.f
  rw [if_pos (by omega), Int.toNat_natCast, if_pos (by omega)]
  rfl

/-! ### what 'take' and 'give' make of a piece -/
theorem take_loop {v : List Int} (hv : Dig v) {seg : List Int} (hds : Dig seg) {q : Int} (hq0 : 0 ≤ q) (hq1 : q < 4294967296) (hs : seg.length ≤ 1000000) (hlv : v.length < seg.length) (hlow : 0 ≤ val seg - q * val v + pw seg.length) (d : Nat) :
    ∀ (i : Nat) (out : List Int) (c b : Int), seg.length = i + d → out.length = seg.length → Dig out → 0 ≤ c → c < 4294967296 → (i = seg.length → c = 0) → 0 ≤ b → b ≤ 1 → hi out i = hi seg i → lo out i = lo seg i - q * lo v i + pw i * (c + b) →
    Ev (fun k => nat_take.l0 k out v q c b (seg.length : Int) (i : Int)) (decide (q * val v ≤ val seg), fixd seg.length (if q * val v ≤ val seg then val seg - q * val v else val seg - q * val v + pw seg.length)) := by
  induction d with
  | zero =>
    intro i out c b hi0 hl hd hc0 hc1 hce hb0 hb1 hh hv2
    obtain rfl := hce (by omega)
    have hi1 : i = seg.length := by omega
    subst hi1
    rw [lo_all (by omega), lo_all (Nat.le_refl _), lo_all (by omega), Int.zero_add] at hv2
    have h0 := val_nonneg hd
    have h1 := val_lt hd
    rw [hl] at h1
    have hp := pw_pos seg.length
    refine Ev.step (f := fun k => some (b == 0, out)) (fun k => ?_) ?_
    · simp only [nat_take.l0]
      rw [if_neg (by omega)]
    · by_cases c : q * val v ≤ val seg
      · have hb : b = 0 := by
          rcases Int.lt_or_le 0 b with h | h
          · obtain rfl : b = 1 := by omega
            omega
          · omega
        subst hb
        rw [if_pos c, decide_eq_true c, ← fixd_eq hd hl (by rw [hv2]; omega)]
        exact ev_some _
      · have hb : b = 1 := by
          rcases Int.lt_or_le 0 b with h | h
          · omega
          · obtain rfl : b = 0 := by omega
            omega
        subst hb
        rw [if_neg c, decide_eq_false c, ← fixd_eq hd hl (by rw [hv2]; omega)]
        exact ev_some _
  | succ d ih =>
    intro i out c b hi0 hl hd hc0 hc1 hce hb0 hb1 hh hv2
    have h1 := dg_dig hv i
    have h2 := dg_dig hd i
    have hlt : i < out.length := by omega
    obtain ⟨p0, p1⟩ := step_bound (o := 0) ⟨hc0, hc1⟩ ⟨hq0, hq1⟩ h1 ⟨by omega, by omega⟩
    rw [Int.add_zero] at p1
    obtain ⟨s0, s1, s2, s3⟩ := split64 (s := c + q * dg v i) (by omega) p1
    have c1 : (i : Int) < (seg.length : Int) := by omega
    have c2 : (i : Int) < (out.length : Int) := by omega
    have c3 : i ≤ 2000000 := by omega
    have hdi : dg out i = dg seg i ∧ hi out (i + 1) = hi seg (i + 1) := by
      have e1 := hi_step out i
      have e2 := hi_step seg i
      rw [hh, e2] at e1
      have e4 := dg_dig hds i
      omega
    obtain ⟨r, b2, hr, hb, b20, b21, b22⟩ := borrow64 h2 s0 hb0 hb1
    have hnext : r % 4294967296 < 4294967296 ∧ 0 ≤ r % 4294967296 := ⟨Int.emod_lt_of_pos _ (by decide), Int.emod_nonneg _ (by decide)⟩
    have h := fun hce2 => ih (i + 1) (out.set i (r % 4294967296)) ((c + q * dg v i) / 4294967296) b2 (by omega) (by rw [List.length_set]; exact hl) (dig_set hd ⟨hnext.2, hnext.1⟩) s1 s2 hce2 b20 b21 (by rw [hi_set_lt _ (Nat.lt_succ_self _)]; exact hdi.2) (by
      have e5 : lo (out.set i (r % 4294967296)) i = lo out i := by
        unfold lo
        rw [List.take_set_of_le (Nat.le_refl _)]
      rw [lo_succ, lo_succ seg i, lo_succ v i, e5, hv2, dg_set _ _ hlt, if_pos rfl, b22, hdi.1, pw_succ]
      have h4 : pw i * (c + q * dg v i) = pw i * ((c + q * dg v i) % 4294967296) + 4294967296 * pw i * ((c + q * dg v i) / 4294967296) := by
        conv => lhs; rw [s3]
        grind
      grind)
    refine Ev.step (fun k => ?_) (h (fun e => ?_))
    · simp only [nat_take.l0]
      rw [if_pos c1, at_eq hv, Option.bind_some, if_pos (by omega), if_pos c2, rd_nat, u64_eq (x := q * dg v i) p0 (by omega), u64_eq (x := c + q * dg v i) (by omega) p1, and64 (by omega) p1, u64_eq (x := dg out i) h2.1 (by omega), hr, hb, Int.toNat_natCast, w64s i c3]
    · have hz : dg v i = 0 := dg_of_ge (by omega)
      rw [hz, Int.mul_zero, Int.add_zero]
      exact Int.ediv_eq_zero_of_lt hc0 hc1
/-- 'take': the piece less q times v, or as much and one more at its end; whether it was enough. -/
theorem take_seg {v : List Int} (hv : Dig v) {seg : List Int} (hds : Dig seg) {q : Int} (hq0 : 0 ≤ q) (hq1 : q < 4294967296) (hs : seg.length ≤ 1000000) (hlv : v.length < seg.length) (hlow : 0 ≤ val seg - q * val v + pw seg.length) :
    Ev (fun k => nat_take.l0 k seg v q 0 0 (seg.length : Int) 0) (decide (q * val v ≤ val seg), fixd seg.length (if q * val v ≤ val seg then val seg - q * val v else val seg - q * val v + pw seg.length)) :=
  take_loop hv hds hq0 hq1 hs hlv hlow seg.length 0 seg 0 0 (by omega) rfl hds (by omega) (by omega) (fun _ => rfl) (by omega) (by omega) rfl (by rw [lo_zero, lo_zero]; grind)
theorem give_loop {v : List Int} (hv : Dig v) {seg : List Int} (hds : Dig seg) (hs : seg.length ≤ 1000000) (hlv : v.length ≤ seg.length) (d : Nat) :
    ∀ (i : Nat) (out : List Int) (c : Int), seg.length = i + d → out.length = seg.length → Dig out → 0 ≤ c → c ≤ 1 → hi out i = hi seg i → lo out i + pw i * c = lo seg i + lo v i →
    Ev (fun k => nat_give.l0 k out v c (seg.length : Int) (i : Int)) (fixd seg.length ((val seg + val v) % pw seg.length)) := by
  induction d with
  | zero =>
    intro i out c hi0 hl hd hc0 hc1 hh hv2
    have hi1 : i = seg.length := by omega
    subst hi1
    rw [lo_all (by omega), lo_all (Nat.le_refl _), lo_all (by omega)] at hv2
    have h0 := val_nonneg hd
    have h1 := val_lt hd
    rw [hl] at h1
    refine Ev.step (f := fun k => some out) (fun k => ?_) ?_
    · simp only [nat_give.l0]
      rw [if_neg (by omega)]
    · rw [← hv2, Int.add_mul_emod_self_left, Int.emod_eq_of_lt h0 h1, ← fixd_eq hd hl rfl]
      exact ev_some _
  | succ d ih =>
    intro i out c hi0 hl hd hc0 hc1 hh hv2
    have h1 := dg_dig hv i
    have h2 := dg_dig hd i
    have hlt : i < out.length := by omega
    have c1 : (i : Int) < (seg.length : Int) := by omega
    have c2 : (i : Int) < (out.length : Int) := by omega
    have c3 : i ≤ 2000000 := by omega
    have hdi : dg out i = dg seg i ∧ hi out (i + 1) = hi seg (i + 1) := by
      have e1 := hi_step out i
      have e2 := hi_step seg i
      rw [hh, e2] at e1
      have e4 := dg_dig hds i
      omega
    have h := ih (i + 1) (out.set i ((c + (dg out i + dg v i)) % 4294967296)) ((c + (dg out i + dg v i)) / 4294967296) (by omega) (by rw [List.length_set]; exact hl) (dig_set hd ⟨by omega, by omega⟩) (by omega) (by omega) (by rw [hi_set_lt _ (Nat.lt_succ_self _)]; exact hdi.2) (by
      have e5 : lo (out.set i ((c + (dg out i + dg v i)) % 4294967296)) i = lo out i := by
        unfold lo
        rw [List.take_set_of_le (Nat.le_refl _)]
      rw [lo_succ, lo_succ seg i, lo_succ v i, e5, dg_set _ _ hlt, if_pos rfl, ← hdi.1, pw_succ]
      generalize hs2 : c + (dg out i + dg v i) = s
      have h4 : pw i * s = pw i * (s % 4294967296) + 4294967296 * pw i * (s / 4294967296) := by
        conv => lhs; rw [← Int.emod_add_mul_ediv s 4294967296]
        grind
      grind)
    refine Ev.step (fun k => ?_) h
    simp only [nat_give.l0]
    rw [if_pos c1, if_pos (by omega), if_pos c2, at_eq hv, Option.bind_some, rd_nat, u64_eq (x := dg out i) h2.1 (by omega), u64_eq (x := dg out i + dg v i) (by omega) (by omega), u64_eq (x := c + (dg out i + dg v i)) (by omega) (by omega), Int.toNat_natCast, w64s i c3]
theorem give_seg {v : List Int} (hv : Dig v) {seg : List Int} (hds : Dig seg) (hs : seg.length ≤ 1000000) (hlv : v.length ≤ seg.length) :
    Ev (fun k => nat_give.l0 k seg v 0 (seg.length : Int) 0) (fixd seg.length ((val seg + val v) % pw seg.length)) :=
  give_loop hv hds hs hlv seg.length 0 seg 0 (by omega) rfl hds (by omega) (by omega) rfl (by rw [lo_zero, lo_zero]; grind)
end Go.Proofs.Ytceglknbonfdeaa.PNat
