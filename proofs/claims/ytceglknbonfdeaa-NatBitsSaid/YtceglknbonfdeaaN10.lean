/- Greatest common divisors: by Euclid's steps and, in the reference, by halves. No program. -/
import Derived.Test.YtceglknbonfdeaaN9
namespace Go.Proofs.Ytceglknbonfdeaa.PNat
open Go.RowKit Go.Proofs.YtceglknbonfdeaaW.PrintWords Go.Proofs.YtceglknbonfdeaaW.PrintLast Go.Proofs.YtceglknbonfdeaaW.PrintMore
set_option linter.unusedVariables false

/-- The greatest common divisor of two numbers. -/
def gI (a b : Int) : Int := ((Nat.gcd a.toNat b.toNat : Nat) : Int)
theorem gI_nonneg (a b : Int) : 0 ≤ gI a b := Int.natCast_nonneg _
theorem gI_comm (a b : Int) : gI a b = gI b a := by unfold gI; rw [Nat.gcd_comm]
theorem gI_zero {a : Int} (h : 0 ≤ a) : gI a 0 = a := by
  unfold gI
  rw [show (0 : Int).toNat = 0 from rfl, Nat.gcd_zero_right]
  omega
theorem gI_le {a b : Int} (h : 0 < a) : gI a b ≤ a := by
  have := Nat.gcd_le_left b.toNat (show 0 < a.toNat by omega)
  unfold gI
  omega
theorem gI_mod {a b : Int} (ha : 0 ≤ a) (hb : 0 < b) : gI b (a % b) = gI a b := by
  obtain ⟨m, rfl⟩ := Int.eq_ofNat_of_zero_le ha
  obtain ⟨n, rfl⟩ := Int.eq_ofNat_of_zero_le (show 0 ≤ b by omega)
  have e : ((m : Int) % (n : Int)).toNat = m % n := by
    rw [show (m : Int) % (n : Int) = ((m % n : Nat) : Int) from rfl, Int.toNat_natCast]
  unfold gI
  rw [e, Int.toNat_natCast, Int.toNat_natCast, Nat.gcd_comm, ← Nat.gcd_rec, Nat.gcd_comm]
theorem gI_sub {a b : Int} (hb : 0 ≤ b) (h : b ≤ a) : gI b (a - b) = gI a b := by
  obtain ⟨m, rfl⟩ := Int.eq_ofNat_of_zero_le (show 0 ≤ a by omega)
  obtain ⟨n, rfl⟩ := Int.eq_ofNat_of_zero_le hb
  have e : ((m : Int) - (n : Int)).toNat = m - n := by omega
  unfold gI
  rw [e, Int.toNat_natCast, Int.toNat_natCast, Nat.gcd_comm m n, Nat.gcd_sub_self_right (by omega)]
theorem gI_even {a b : Int} (ha : 0 ≤ a) (hb : 0 ≤ b) (h1 : a % 2 = 0) (h2 : b % 2 = 0) : gI a b = 2 * gI (a / 2) (b / 2) := by
  obtain ⟨m, hm⟩ := Int.eq_ofNat_of_zero_le (show 0 ≤ a / 2 by omega)
  obtain rfl : a = 2 * (m : Int) := by omega
  obtain ⟨n, hn⟩ := Int.eq_ofNat_of_zero_le (show 0 ≤ b / 2 by omega)
  obtain rfl : b = 2 * (n : Int) := by omega
  unfold gI
  rw [show (2 * (m : Int)).toNat = 2 * m by omega, show (2 * (n : Int)).toNat = 2 * n by omega, show (2 * (m : Int) / 2).toNat = m by omega, show (2 * (n : Int) / 2).toNat = n by omega, Nat.gcd_mul_left]
  omega
theorem gI_half {a b : Int} (ha : 0 ≤ a) (h1 : a % 2 = 0) (h2 : b % 2 = 1) (hb : 0 ≤ b) : gI (a / 2) b = gI a b := by
  obtain ⟨m, hm⟩ := Int.eq_ofNat_of_zero_le (show 0 ≤ a / 2 by omega)
  obtain rfl : a = 2 * (m : Int) := by omega
  unfold gI
  rw [show (2 * (m : Int)).toNat = 2 * m by omega, show (2 * (m : Int) / 2).toNat = m by omega]
  have hc : Nat.Coprime 2 b.toNat := by
    have : b.toNat % 2 = 1 := by omega
    unfold Nat.Coprime
    rw [Nat.gcd_rec, this]
    decide
  rw [Nat.Coprime.gcd_mul_left_cancel m hc]

/-! ### Euclid -/
theorem gcd_loop (n : Nat) : ∀ x y : List Int, Canon x → Canon y → x.length ≤ 100000 → y.length ≤ 100000 → val y < n → Ev (fun k => nat_gcd.l0 k x y) (num (gI (val x) (val y))) := by
  induction n with
  | zero => intro x y cx cy _ _ h; have := val_nonneg cy.1; omega
  | succ n ih =>
    intro x y cx cy sx sy h
    have vx := val_nonneg cx.1
    refine ev_succ ?_
    simp only [nat_gcd.l0]
    rcases Nat.eq_zero_or_pos y.length with h0 | h0
    · obtain rfl := List.eq_nil_of_length_eq_zero h0
      rw [val_nil, gI_zero vx, num_of cx]
      exact ev_else (by decide) (ev_val (clone_eq _ (by omega)) (ev_some _))
    · have hv := cy.pos h0
      have r0 : 0 ≤ val x % val y := Int.emod_nonneg _ (by omega)
      have r1 : val x % val y < val y := Int.emod_lt_of_pos _ hv
      have rl : (num (val x % val y)).length ≤ y.length := num_len r0 (by have := val_lt cy.1; omega)
      have hn := ih y (num (val x % val y)) cy (num_canon r0) sy (by omega) (by rw [num_val r0]; omega)
      rw [num_val r0, gI_mod vx hv] at hn
      exact ev_if (by omega) (Ev.bind (div_f cx cy h0 sx sy) hn)
theorem Gcd_ok {x y : List Int} (cx : Canon x) (cy : Canon y) (sx : x.length ≤ 512) (sy : y.length ≤ 512) : Ev (fun k => nat_Gcd.f k x y) (num (gI (val x) (val y)), 0) := by
  have h := gcd_loop ((val y).toNat + 1) x y cx cy (by omega) (by omega) (by have := val_nonneg cy.1; omega)
  unfold nat_Gcd.f
  exact Ev.bind (form2 x y (by omega) (by omega)) (ev_if (fE2_ok sx cx sy cy) (Ev.bind h (ev_some _)))

/-! ### half -/
theorem rhalf_loop {x : List Int} (hx : Dig x) (hs : x.length ≤ 1000000) (n : Nat) : ∀ (out : List Int) (c : Int), n ≤ x.length → out.length = x.length → Dig out → 0 ≤ c → c ≤ 1 → lo out n = 0 → hi x n = 2 * hi out n + c →
    Ev (fun k => fluxionref01_half.l0 k x out c ((n : Int) - 1)) (num (val x / 2)) := by
  induction n with
  | zero =>
    intro out c hn hl hd hc0 hc1 hz hv
    rw [hi_zero, hi_zero] at hv
    refine ev_succ ?_
    simp only [fluxionref01_half.l0]
    exact ev_else (by omega) (rshort_num hd (by omega) (by omega))
  | succ n ih =>
    intro out c hn hl hd hc0 hc1 hz hv
    have h1 := dg_dig hx n
    have hlt : n < out.length := by omega
    have c1 : (n : Int) < (x.length : Int) := by omega
    have c2 : (n : Int) < (out.length : Int) := by omega
    have c3 : n ≤ 2000000 := by omega
    have hz0 := lo_succ out n
    have hz1 := lo_nonneg hd n
    have hz2 := dg_dig hd n
    have hz3 : 0 ≤ pw n * dg out n := Int.mul_nonneg (by have := pw_pos n; omega) hz2.1
    have e31 : (2 : Int) ^ 31 = 2147483648 := by decide
    have hor : Go.bits .or .u32 (dg x n / 2) (c * 2147483648 % 4294967296) = dg x n / 2 + c * 2147483648 := by
      rw [Int.emod_eq_of_lt (by omega) (by omega), or32_comm (by omega) (by omega) (by omega) (by omega), or32 31 (by omega) (by omega) (by rw [e31]; exact Int.mul_emod_left _ _) (by omega) (by rw [e31]; omega) (by omega), Int.add_comm]
    have h := ih (out.set n (dg x n / 2 + c * 2147483648)) (dg x n % 2) (by omega) (by rw [List.length_set]; exact hl) (dig_set hd (by omega)) (by omega) (by omega) (by
        have : lo (out.set n (dg x n / 2 + c * 2147483648)) n = lo out n := by
          unfold lo
          rw [List.take_set_of_le (Nat.le_refl _)]
        rw [this]
        omega) (by
      rw [hi_set_self _ hlt, hi_step x n, hv]
      omega)
    rw [pred_succ]
    refine ev_succ ?_
    simp only [fluxionref01_half.l0]
    refine ev_if (by omega) (ev_if (by omega) (ev_if c1 (ev_if c2 (ev_eq (fun k => ?_) h))))
    rw [rd_nat, hor, Int.tmod_eq_emod_of_nonneg h1.1, w64p n c3, Int.toNat_natCast]
theorem rhalf_f {x : List Int} (hx : Dig x) (hs : x.length ≤ 1000000) : Ev (fun k => fluxionref01_half.f k x) (num (val x / 2)) := by
  have h := rhalf_loop hx hs x.length (List.replicate x.length 0) 0 (Nat.le_refl _) (by rw [List.length_replicate]) (dig_replicate _) (by omega) (by omega) (by rw [lo_all (by rw [List.length_replicate]; exact Nat.le_refl _), val_replicate]) (by rw [hi_all (Nat.le_refl _), hi_all (by rw [List.length_replicate]; exact Nat.le_refl _)]; rfl)
  unfold fluxionref01_half.f
  refine ev_if (by omega) (ev_if (by rw [Int.toNat_natCast]; omega) (ev_eq (fun k => ?_) h))
  rw [Int.toNat_natCast, w64p _ (by omega)]

/-! ### by halves -/
theorem even_dg {x : List Int} (hx : Dig x) : Int.tmod (rd x 0) 2 = val x % 2 := by
  have h := dg_dig hx 0
  have e := hi_step x 0
  rw [hi_zero] at e
  rw [show rd x 0 = dg x 0 from rd_nat x 0, Int.tmod_eq_emod_of_nonneg h.1, e]
  omega
theorem rgcd_l4 (s : Nat) (hs : s ≤ 20000) (n : Nat) : ∀ (i : Nat) (x : List Int), s = i + n → Canon x → x.length ≤ 1000 + i → Ev (fun k => fluxionref01_Gcd.l4 k x (s : Int) (i : Int)) (num (2 ^ n * val x)) := by
  induction n with
  | zero =>
    intro i x hi cx sx
    rw [Int.pow_zero, Int.one_mul, num_of cx]
    refine ev_succ ?_
    simp only [fluxionref01_Gcd.l4]
    refine ev_else (by omega) (ev_val rfl (ev_if ?_ (ev_eq (fun _ => by rw [List.nil_append]) (ev_some _))))
    rw [List.length_nil, Nat.zero_add]
    omega
  | succ n ih =>
    intro i x hi cx sx
    have vx := val_nonneg cx.1
    have ht := rtwice_f cx.1 (by omega) 0 (by omega) (by omega)
    rw [Int.add_zero] at ht
    have hl : (num (2 * val x)).length ≤ x.length + 1 := num_len (by omega) (by have := val_lt cx.1; rw [pw_succ]; have := pw_pos x.length; omega)
    have h := ih (i + 1) (num (2 * val x)) (by omega) (num_canon (by omega)) (by omega)
    rw [num_val (by omega), show (2 : Int) ^ n * (2 * val x) = 2 ^ (n + 1) * val x by rw [two_succ]; grind] at h
    refine ev_succ ?_
    simp only [fluxionref01_Gcd.l4]
    refine ev_if (by omega) (Ev.bind ht (ev_eq (fun k => ?_) h))
    rw [w64s i (by omega)]
/-- The halving of the second number, when the first is odd. -/
theorem rgcd_l3 (s : Nat) (g : Int) (n : Nat) (next : ∀ x y : List Int, Canon x → Canon y → x.length ≤ 1000 → y.length ≤ 1000 → 0 < val x → (val x % 2 = 1 ∨ val y % 2 = 1) → val x + val y < n → g = 2 ^ s * gI (val x) (val y) → Ev (fun k => fluxionref01_Gcd.l1 k x y (s : Int)) (num g)) (x : List Int) (cx : Canon x) (sx : x.length ≤ 1000) (vx : 0 < val x) (ox : val x % 2 = 1) (m : Nat) :
    ∀ y : List Int, Canon y → y.length ≤ 1000 → 0 < val y → val y ≤ m → val x + val y ≤ n → g = 2 ^ s * gI (val x) (val y) → Ev (fun k => fluxionref01_Gcd.l3 k x y (s : Int)) (num g) := by
  induction m with
  | zero => intro y cy sy vy h; omega
  | succ m ih =>
    intro y cy sy vy hm hn hg
    have hp := cy.len_pos vy
    refine ev_succ ?_
    simp only [fluxionref01_Gcd.l3]
    refine ev_if (by omega) ?_
    rw [even_dg cy.1]
    by_cases h : val y % 2 = 0
    · have h2 : 0 ≤ val y / 2 := by omega
      have hl : (num (val y / 2)).length ≤ y.length := num_len h2 (by have := val_lt cy.1; omega)
      have hn2 := ih (num (val y / 2)) (num_canon h2) (by omega) (by rw [num_val h2]; omega) (by rw [num_val h2]; omega) (by rw [num_val h2]; omega) (by rw [num_val h2, gI_comm, gI_half (by omega) h ox (by omega), gI_comm]; exact hg)
      exact ev_if h (Ev.bind (rhalf_f cy.1 (by omega)) hn2)
    · refine ev_else h (Ev.bind (rcompare_f cx cy (by omega)) ?_)
      rcases Int.lt_or_le (val y) (val x) with hlt | hle
      · have hd : 0 ≤ val x - val y := by omega
        have hl : (num (val x - val y)).length ≤ x.length := num_len hd (by have := val_lt cx.1; omega)
        exact ev_if (cmpI_pos.2 hlt) (Ev.bind (rsub_f cx.1 cy.1 (by omega) (le_len cx.1 cy (by omega)) (by omega)) (next y (num (val x - val y)) cy (num_canon hd) sy (by omega) vy (.inl (by omega)) (by rw [num_val hd]; omega) (by rw [num_val hd, gI_sub (by omega) (by omega)]; exact hg)))
      · have hd : 0 ≤ val y - val x := by omega
        have hl : (num (val y - val x)).length ≤ y.length := num_len hd (by have := val_lt cy.1; omega)
        exact ev_else (fun c => by have := cmpI_pos.1 c; omega) (Ev.bind (rsub_f cy.1 cx.1 (by omega) (le_len cy.1 cx (by omega)) (by omega)) (next x (num (val y - val x)) cx (num_canon hd) sx (by omega) vx (.inl ox) (by rw [num_val hd]; omega) (by rw [num_val hd, gI_sub (by omega) (by omega), gI_comm]; exact hg)))
theorem rgcd_l2 (s : Nat) (g : Int) (n : Nat) (next : ∀ x y : List Int, Canon x → Canon y → x.length ≤ 1000 → y.length ≤ 1000 → 0 < val x → (val x % 2 = 1 ∨ val y % 2 = 1) → val x + val y < n → g = 2 ^ s * gI (val x) (val y) → Ev (fun k => fluxionref01_Gcd.l1 k x y (s : Int)) (num g)) (y : List Int) (cy : Canon y) (sy : y.length ≤ 1000) (vy : 0 < val y) (m : Nat) :
    ∀ x : List Int, Canon x → x.length ≤ 1000 → 0 < val x → val x ≤ m → (val x % 2 = 1 ∨ val y % 2 = 1) → val x + val y ≤ n → g = 2 ^ s * gI (val x) (val y) → Ev (fun k => fluxionref01_Gcd.l2 k x y (s : Int)) (num g) := by
  induction m with
  | zero => intro x cx sx vx h; omega
  | succ m ih =>
    intro x cx sx vx hm ho hn hg
    have hp := cx.len_pos vx
    refine ev_succ ?_
    simp only [fluxionref01_Gcd.l2]
    refine ev_if (by omega) ?_
    rw [even_dg cx.1]
    by_cases h : val x % 2 = 0
    · have h2 : 0 ≤ val x / 2 := by omega
      have hl : (num (val x / 2)).length ≤ x.length := num_len h2 (by have := val_lt cx.1; omega)
      have hn2 := ih (num (val x / 2)) (num_canon h2) (by omega) (by rw [num_val h2]; omega) (by rw [num_val h2]; omega) (.inr (by omega)) (by rw [num_val h2]; omega) (by rw [num_val h2, gI_half (by omega) h (by omega) (by omega)]; exact hg)
      exact ev_if h (Ev.bind (rhalf_f cx.1 (by omega)) hn2)
    · exact ev_else h (rgcd_l3 s g n next x cx sx vx (by omega) (val y).toNat y cy sy vy (by omega) hn hg)
theorem rgcd_l1 (s : Nat) (hs : s ≤ 20000) (g : Int) (n : Nat) : ∀ x y : List Int, Canon x → Canon y → x.length ≤ 1000 → y.length ≤ 1000 → 0 < val x → (val x % 2 = 1 ∨ val y % 2 = 1) → val x + val y < n → g = 2 ^ s * gI (val x) (val y) → Ev (fun k => fluxionref01_Gcd.l1 k x y (s : Int)) (num g) := by
  induction n with
  | zero => intro x y cx cy _ _ h _ h2; have := val_nonneg cy.1; omega
  | succ n ih =>
    intro x y cx cy sx sy vx ho hn hg
    refine ev_succ ?_
    simp only [fluxionref01_Gcd.l1]
    rcases Nat.eq_zero_or_pos y.length with h0 | h0
    · obtain rfl := List.eq_nil_of_length_eq_zero h0
      rw [val_nil, gI_zero (by omega)] at hg
      rw [hg]
      exact ev_else (by decide) (rgcd_l4 s hs s 0 x (by omega) cx (by omega))
    · exact ev_if (by omega) (rgcd_l2 s g n ih y cy sy (cy.pos h0) (val x).toNat x cx sx vx (by omega) ho (by omega) hg)
theorem rgcd_l0 (B : Nat) (hB : B ≤ 20000) (g : Int) (n : Nat) : ∀ (s : Nat) (x y : List Int), Canon x → Canon y → x.length ≤ 1000 → y.length ≤ 1000 → 0 < val x → 0 < val y → val x ≤ n → 2 ^ s * val x < 2 ^ B → g = 2 ^ s * gI (val x) (val y) → Ev (fun k => fluxionref01_Gcd.l0 k x y (s : Int)) (num g) := by
  induction n with
  | zero => intro s x y cx cy _ _ h _ h2; omega
  | succ n ih =>
    intro s x y cx cy sx sy vx vy hn hb hg
    have hP := two_pos s
    have hsB : s < B := by
      refine pow_lt_iff (Int.lt_of_le_of_lt ?_ hb)
      have : (2 : Int) ^ s * 1 ≤ 2 ^ s * val x := Int.mul_le_mul_of_nonneg_left (by omega) (by omega)
      omega
    have px := cx.len_pos vx
    have py := cy.len_pos vy
    have stop : (val x % 2 = 1 ∨ val y % 2 = 1) → Ev (fun k => fluxionref01_Gcd.j1 k x y (s : Int) false) (num g) := fun ho => by
      refine ev_succ ?_
      simp only [fluxionref01_Gcd.j1]
      exact ev_else (by decide) (rgcd_l1 s (by omega) g ((val x + val y).toNat + 1) x y cx cy sx sy vx ho (by omega) hg)
    refine ev_succ ?_
    simp only [fluxionref01_Gcd.l0]
    refine ev_if (by omega) ?_
    rw [even_dg cx.1, even_dg cy.1]
    by_cases h : val x % 2 = 0
    · refine ev_if h (ev_if (by omega) ?_)
      by_cases h' : val y % 2 = 0
      · rw [h', show ((0 : Int) == 0) = true from rfl]
        have x2 : 0 ≤ val x / 2 := by omega
        have y2 : 0 ≤ val y / 2 := by omega
        have lx : (num (val x / 2)).length ≤ x.length := num_len x2 (by have := val_lt cx.1; omega)
        have ly : (num (val y / 2)).length ≤ y.length := num_len y2 (by have := val_lt cy.1; omega)
        have hn2 := ih (s + 1) (num (val x / 2)) (num (val y / 2)) (num_canon x2) (num_canon y2) (by omega) (by omega) (by rw [num_val x2]; omega) (by rw [num_val y2]; omega) (by rw [num_val x2]; omega) (by
            rw [num_val x2, two_succ]
            have : 2 * 2 ^ s * (val x / 2) = 2 ^ s * val x := by
              conv => rhs; rw [show val x = 2 * (val x / 2) by omega]
              grind
            rw [this]; exact hb) (by
            rw [num_val x2, num_val y2, hg, gI_even (by omega) (by omega) h h', two_succ]
            grind)
        refine ev_succ ?_
        simp only [fluxionref01_Gcd.j1]
        refine ev_if (by decide) (Ev.bind (rhalf_f cx.1 (by omega)) (Ev.bind (rhalf_f cy.1 (by omega)) (ev_eq (fun k => ?_) hn2)))
        rw [w64s s (by omega)]
      · rw [show (val y % 2 == 0) = false by rw [beq_eq_false_iff_ne]; exact h']
        exact stop (.inr (by omega))
    · exact ev_else h (stop (.inl (by omega)))
theorem rgcd_f {x y : List Int} (cx : Canon x) (cy : Canon y) (sx : x.length ≤ 512) (sy : y.length ≤ 512) : Ev (fun k => fluxionref01_Gcd.f k x y) (num (gI (val x) (val y))) := by
  have vx := val_nonneg cx.1
  have vy := val_nonneg cy.1
  have keep : ∀ {z : List Int}, z.length ≤ 512 → Ev (fun _ : Nat => ((some (([] : List Int) : List Int)).bind fun y406 => (if y406.length + z.length < 35184372088832 then (some (y406 ++ z)) else (none)))) z := fun {z} hz => by
    refine ev_val rfl (ev_if ?_ (ev_eq (fun _ => by rw [List.nil_append]) (ev_some _)))
    rw [List.length_nil, Nat.zero_add]
    omega
  unfold fluxionref01_Gcd.f
  rcases Nat.eq_zero_or_pos x.length with h0 | h0
  · obtain rfl := List.eq_nil_of_length_eq_zero h0
    rw [val_nil, gI_comm, gI_zero vy, num_of cy]
    exact ev_if rfl (keep sy)
  · refine ev_else (by omega) ?_
    rcases Nat.eq_zero_or_pos y.length with h1 | h1
    · obtain rfl := List.eq_nil_of_length_eq_zero h1
      rw [val_nil, gI_zero vx, num_of cx]
      exact ev_if rfl (keep sx)
    · refine ev_else (by omega) ?_
      have := val_512 cx.1 sx
      rw [pw_two] at this
      exact rgcd_l0 (32 * 512) (by omega) (gI (val x) (val y)) (val x).toNat 0 x y cx cy (by omega) (by omega) (cx.pos h0) (cy.pos h1) (by omega) (by rw [Int.pow_zero, Int.one_mul]; exact this) (by rw [Int.pow_zero, Int.one_mul])
end Go.Proofs.Ytceglknbonfdeaa.PNat
