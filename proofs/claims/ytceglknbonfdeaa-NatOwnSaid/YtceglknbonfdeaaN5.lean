/- Division of long numbers, as by hand: the digit that is guessed, what is taken and given back, and the whole. No program. -/
import Derived.Test.YtceglknbonfdeaaN4
namespace Go.Proofs.Ytceglknbonfdeaa.PNat
open Go.RowKit Go.Proofs.YtceglknbonfdeaaW.PrintWords Go.Proofs.YtceglknbonfdeaaW.PrintLast Go.Proofs.YtceglknbonfdeaaW.PrintMore
set_option linter.unusedVariables false

theorem ev_map {α β : Type} {g : Nat → Option α} {F : α → β} {a : α} (h : Ev g a) : Ev (fun n => (g n).map F) (F a) := by
  obtain ⟨K, hK⟩ := h
  exact ⟨K, fun k hk => by show (g k).map F = _; rw [hK k hk]; rfl⟩
theorem w64l2 {n : Nat} (h0 : 2 ≤ n) (h : n ≤ 2000000) : wrap64 ((n : Int) - 2) = ((n - 2 : Nat) : Int) := by rw [w64 (by omega) (by omega)]; omega

/-! ### the guess -/
/-- The dividend's first three digits (two, us) and what follows; the divisor's first two (vt, vs). -/
structure Kn (two us vt vs p U V : Int) : Prop where
  p0 : 0 < p
  us0 : 0 ≤ us
  us1 : us < 4294967296
  vs0 : 0 ≤ vs
  vs1 : vs < 4294967296
  vt0 : 2147483648 ≤ vt
  vt1 : vt < 4294967296
  two0 : 0 ≤ two
  two1 : two < 18446744073709551616
  Ulo : (two * 4294967296 + us) * p ≤ U
  Uhi : U < (two * 4294967296 + us + 1) * p
  Vlo : (vt * 4294967296 + vs) * p ≤ V
  Vhi : V < (vt * 4294967296 + vs + 1) * p
  UV : U < V * 4294967296
section
variable {two us vt vs p U V : Int}
theorem Kn.V0 (h : Kn two us vt vs p U V) : 0 < V := by
  have h1 := h.Vlo
  have h2 : 1 * p ≤ (vt * 4294967296 + vs) * p := Int.mul_le_mul_of_nonneg_right (by have := h.vt0; have := h.vs0; omega) (by have := h.p0; omega)
  have := h.p0
  omega
/-- A guess that is found too great, is too great. -/
theorem Kn.less (h : Kn two us vt vs p U V) {q r : Int} (hq : 0 ≤ q) (hr : two = q * vt + r) (hU : U < (q + 1) * V) (hg : 4294967296 ≤ q ∨ r * 4294967296 + us < q * vs) : U < q * V := by
  rcases hg with hg | hg
  · have h1 := h.UV
    have h2 : V * 4294967296 ≤ V * q := Int.mul_le_mul_of_nonneg_left hg (by have := h.V0; omega)
    have h3 : V * q = q * V := Int.mul_comm _ _
    omega
  · have h1 : two * 4294967296 + us + 1 ≤ q * (vt * 4294967296 + vs) := by rw [hr]; grind
    have h2 : (two * 4294967296 + us + 1) * p ≤ q * (vt * 4294967296 + vs) * p := Int.mul_le_mul_of_nonneg_right h1 (by have := h.p0; omega)
    have h3 : q * ((vt * 4294967296 + vs) * p) ≤ q * V := Int.mul_le_mul_of_nonneg_left h.Vlo hq
    have h4 : q * (vt * 4294967296 + vs) * p = q * ((vt * 4294967296 + vs) * p) := Int.mul_assoc _ _ _
    have := h.Uhi
    omega
/-- A guess whose rest is great is below 2^32. -/
theorem Kn.small (h : Kn two us vt vs p U V) {q r : Int} (hr : two = q * vt + r) (hg : 4294967296 ≤ r) : q < 4294967296 := by
  have h1 : two * 4294967296 * p ≤ (two * 4294967296 + us) * p := Int.mul_le_mul_of_nonneg_right (by have := h.us0; omega) (by have := h.p0; omega)
  have h2 : (vt * 4294967296 + vs + 1) * p ≤ (vt * 4294967296 + 4294967296) * p := Int.mul_le_mul_of_nonneg_right (by have := h.vs1; omega) (by have := h.p0; omega)
  have h3 := h.Ulo
  have h4 := h.Vhi
  have h5 := h.UV
  have h6 : two * 4294967296 * p < (vt * 4294967296 + 4294967296) * p * 4294967296 := by omega
  have h7 : two * (4294967296 * p) < (vt * 4294967296 + 4294967296) * (4294967296 * p) := by grind
  have h8 : two < vt * 4294967296 + 4294967296 := Int.lt_of_mul_lt_mul_right h7 (by have := h.p0; omega)
  have h9 : q * vt < 4294967296 * vt := by omega
  exact Int.lt_of_mul_lt_mul_right h9 (by have := h.vt0; omega)
/-- A guess that is not found too great, is at most one too great. -/
theorem Kn.near (h : Kn two us vt vs p U V) {q r : Int} (hq : 0 ≤ q) (hq1 : q < 4294967296) (hr0 : 0 ≤ r) (hr : two = q * vt + r) (hg : q * vs ≤ r * 4294967296 + us ∨ 4294967296 ≤ r) : q * V ≤ U + V := by
  have h1 : q * vs ≤ r * 4294967296 + us := by
    rcases hg with hg | hg
    · exact hg
    · have h2 := mul_bound (A := 4294967295) (C := 4294967295) hq (by omega) h.vs0 (by have := h.vs1; omega)
      have := h.us0
      omega
  have h2 : q * (vt * 4294967296 + vs) ≤ two * 4294967296 + us := by rw [hr]; grind
  have h3 : q * (vt * 4294967296 + vs) * p ≤ (two * 4294967296 + us) * p := Int.mul_le_mul_of_nonneg_right h2 (by have := h.p0; omega)
  have h4 : q * V ≤ q * ((vt * 4294967296 + vs + 1) * p) := Int.mul_le_mul_of_nonneg_left (by have := h.Vhi; omega) hq
  have h5 : q * ((vt * 4294967296 + vs + 1) * p) = q * (vt * 4294967296 + vs) * p + q * p := by grind
  have h6 : q * p ≤ 4294967296 * p := Int.mul_le_mul_of_nonneg_right (by omega) (by have := h.p0; omega)
  have h7 : 4294967296 * p ≤ (vt * 4294967296 + vs) * p := Int.mul_le_mul_of_nonneg_right (by have := h.vt0; have := h.vs0; omega) (by have := h.p0; omega)
  have h8 := h.Ulo
  have h9 := h.Vlo
  omega
/-- The first guess is not too small. -/
theorem Kn.first (h : Kn two us vt vs p U V) : U < (two / vt + 1) * V ∧ two = two / vt * vt + two % vt ∧ 0 ≤ two % vt ∧ two % vt < vt ∧ 0 ≤ two / vt ∧ two / vt < 8589934592 := by
  have hv : 0 < vt := by have := h.vt0; omega
  have h1 := Int.mul_ediv_add_emod two vt
  have h2 := Int.emod_nonneg two (show vt ≠ 0 by omega)
  have h3 := Int.emod_lt_of_pos two hv
  have h4 : 0 ≤ two / vt := Int.ediv_nonneg h.two0 (by omega)
  have h5 : two + 1 ≤ (two / vt + 1) * vt := by grind
  have h6 : (two * 4294967296 + us + 1) ≤ (two / vt + 1) * (vt * 4294967296 + vs) := by
    have h7 : (two + 1) * 4294967296 ≤ (two / vt + 1) * vt * 4294967296 := Int.mul_le_mul_of_nonneg_right h5 (by decide)
    have h8 : 0 ≤ (two / vt + 1) * vs := Int.mul_nonneg (by omega) h.vs0
    have h9 : (two / vt + 1) * (vt * 4294967296 + vs) = (two / vt + 1) * vt * 4294967296 + (two / vt + 1) * vs := by grind
    have := h.us1
    omega
  have h7 : (two * 4294967296 + us + 1) * p ≤ (two / vt + 1) * (vt * 4294967296 + vs) * p := Int.mul_le_mul_of_nonneg_right h6 (by have := h.p0; omega)
  have h8 : (two / vt + 1) * ((vt * 4294967296 + vs) * p) ≤ (two / vt + 1) * V := Int.mul_le_mul_of_nonneg_left h.Vlo (by omega)
  have h9 : (two / vt + 1) * (vt * 4294967296 + vs) * p = (two / vt + 1) * ((vt * 4294967296 + vs) * p) := Int.mul_assoc _ _ _
  have h10 := h.Uhi
  refine ⟨by omega, by rw [Int.mul_comm]; exact h1.symm, h2, h3, h4, Int.ediv_lt_of_lt_mul hv ?_⟩
  have h11 : 8589934592 * 2147483648 ≤ 8589934592 * vt := Int.mul_le_mul_of_nonneg_left h.vt0 (by decide)
  have := h.two1
  omega
end
/-! ### the lists -/
theorem mid_lists {pre seg post : List Int} {i h : Nat} (hp : pre.length = i) (hs : i + seg.length = h) : ((pre ++ seg ++ post).take h).drop i = seg ∧ (pre ++ seg ++ post).take i = pre ∧ (pre ++ seg ++ post).drop h = post := by
  subst hs
  subst hp
  refine ⟨?_, ?_, ?_⟩
  · rw [show pre.length + seg.length = (pre ++ seg).length by rw [List.length_append], List.take_left, List.drop_left]
  · rw [List.append_assoc, List.take_left]
  · rw [show pre.length + seg.length = (pre ++ seg).length by rw [List.length_append], List.drop_left]
theorem cut_join (u : List Int) {i h : Nat} (hi : i ≤ h) (hh : h ≤ u.length) : u.take i ++ (u.take h).drop i ++ u.drop h = u ∧ ((u.take h).drop i).length = h - i ∧ (u.take i).length = i := by
  refine ⟨?_, by rw [List.length_drop, List.length_take]; omega, by rw [List.length_take]; omega⟩
  rw [show u.take i = (u.take h).take i by rw [List.take_take, Nat.min_eq_left hi], List.take_append_drop, List.take_append_drop]
/-! ### the last steps of a round -/
theorem div_j3 {u v out : List Int} {sh : Int} {i m : Nat} {R : List Int × List Int} (hu : Dig u) (hv : Dig v) (hm : v.length = m) (hL : i + m + 1 ≤ u.length) (hL2 : u.length ≤ 900000) (hout : i < out.length)
    {q U V : Int} (hq0 : 0 ≤ q) (hq1 : q < 4294967296) (hU : val ((u.take (i + m + 1)).drop i) = U) (hV : val v = V) (hV0 : 0 < V) (hhi : U < (q + 1) * V) (hlo : q * V ≤ U + V)
    (next : ∀ t : Int, 0 ≤ t → t < 4294967296 → t * V ≤ U → U < (t + 1) * V → Ev (fun k => nat_div.l0 k sh (u.take i ++ fixd (m + 1) (U - t * V) ++ u.drop (i + m + 1)) v (m : Int) (out.set i t) ((i : Int) - 1)) R) :
    Ev (fun k => nat_div.j3 k sh u v (m : Int) out (i : Int) q) R := by
  obtain ⟨j1, j2, j3⟩ := cut_join u (show i ≤ i + m + 1 by omega) hL
  have hds : Dig ((u.take (i + m + 1)).drop i) := dig_drop (dig_take hu _) _
  have hlen : ((u.take (i + m + 1)).drop i).length = m + 1 := by rw [j2]; omega
  have hU0 : 0 ≤ U := by rw [← hU]; exact val_nonneg hds
  have hVp : V < pw m := by rw [← hV, ← hm]; exact val_lt hv
  have hpm : pw (m + 1) = 4294967296 * pw m := pw_succ m
  have hts := take_seg hv hds hq0 hq1 (by omega) (by omega) (by rw [hU, hV, hlen]; omega)
  rw [hU, hV, hlen] at hts
  have e1 : ((i + m + 1 : Nat) : Int).toNat = i + m + 1 := Int.toNat_natCast _
  have e2 : ((i : Nat) : Int).toNat = i := Int.toNat_natCast _
  have c0 : (i : Int) < ((i + m + 1 : Nat) : Int) := by omega
  have c1 : ((i + m + 1 : Nat) : Int) ≤ (u.length : Int) := by omega
  have htake : Ev (fun k => nat_take.f k u v q (i : Int) ((i + m + 1 : Nat) : Int)) (decide (q * V ≤ U), u.take i ++ fixd (m + 1) (if q * V ≤ U then U - q * V else U - q * V + pw (m + 1)) ++ u.drop (i + m + 1)) := by
    refine ev_eq (fun k => ?_) (ev_map (F := fun p : Bool × List Int => (p.1, u.take i ++ p.2 ++ u.drop (i + m + 1))) hts)
    unfold nat_take.f
    rw [if_pos (by omega), if_pos c0, if_pos c1, e1, e2, hlen]
  have d0 : (i : Int) < (out.length : Int) := by omega
  have d1 : i + m ≤ 2000000 := by omega
  have d2 : i ≤ 2000000 := by omega
  by_cases c : q * V ≤ U
  · rw [decide_eq_true c, if_pos c] at htake
    have hn := next q hq0 hq1 c hhi
    have hstep := Ev.bind (f := fun k (bt : Bool × List Int) => if bt.1 = true then (if 0 ≤ (i : Int) then (if (i : Int) < (out.length : Int) then (nat_div.l0 k sh bt.2 v (m : Int) (out.set (i : Int).toNat ((q) % 4294967296)) (wrap64 ((i : Int) - 1))) else (none)) else (none)) else ((nat_give.f k bt.2 v (i : Int) (wrap64 ((wrap64 ((i : Int) + (m : Int))) + 1))).bind fun t208 => (if 0 ≤ (i : Int) then (if (i : Int) < (out.length : Int) then (nat_div.l0 k sh t208 v (m : Int) (out.set (i : Int).toNat ((IntKind.u64.wrap (q - 1)) % 4294967296)) (wrap64 ((i : Int) - 1))) else (none)) else (none)))) htake
      (ev_eq (fun k => by rw [if_pos rfl, if_pos (by omega), if_pos d0, e2, show q % 4294967296 = q from Int.emod_eq_of_lt hq0 hq1, w64p i d2]) hn)
    refine Ev.step (fun k => ?_) hstep
    simp only [nat_div.j3]
    rw [w64a i m d1, w64s _ d1]
  · rw [decide_eq_false c, if_neg c] at htake
    have hq2 : 1 ≤ q := by
      rcases Int.lt_or_le 0 q with h | h
      · omega
      · obtain rfl : q = 0 := by omega
        rw [Int.zero_mul] at c
        omega
    have eq1 : (q - 1) * V = q * V - V := by grind
    have hn := next (q - 1) (by omega) (by omega) (by omega) (by rw [show q - 1 + 1 = q by omega]; omega)
    have hfv : val (fixd (m + 1) (U - q * V + pw (m + 1))) = U - q * V + pw (m + 1) := fixd_val _ (by omega) (by omega)
    have hgs := give_seg (v := v) hv (fixd_dig (m + 1) (U - q * V + pw (m + 1))) (by rw [fixd_length]; omega) (by rw [fixd_length]; omega)
    rw [fixd_length, hfv, hV] at hgs
    have hmod : (U - q * V + pw (m + 1) + V) % pw (m + 1) = U - (q - 1) * V := by
      rw [show U - q * V + pw (m + 1) + V = (U - (q - 1) * V) + pw (m + 1) * 1 by omega, Int.add_mul_emod_self_left]
      exact Int.emod_eq_of_lt (by omega) (by omega)
    rw [hmod] at hgs
    have hm3 := mid_lists (pre := u.take i) (seg := fixd (m + 1) (U - q * V + pw (m + 1))) (post := u.drop (i + m + 1)) (i := i) (h := i + m + 1) j3 (by rw [fixd_length]; omega)
    have hlen2 : (u.take i ++ fixd (m + 1) (U - q * V + pw (m + 1)) ++ u.drop (i + m + 1)).length = u.length := by rw [List.length_append, List.length_append, j3, fixd_length, List.length_drop]; omega
    have hgive : Ev (fun k => nat_give.f k (u.take i ++ fixd (m + 1) (U - q * V + pw (m + 1)) ++ u.drop (i + m + 1)) v (i : Int) ((i + m + 1 : Nat) : Int)) (u.take i ++ fixd (m + 1) (U - (q - 1) * V) ++ u.drop (i + m + 1)) := by
      refine ev_eq (fun k => ?_) (ev_map (F := fun p : List Int => u.take i ++ p ++ u.drop (i + m + 1)) hgs)
      unfold nat_give.f
      rw [if_pos (by omega), if_pos (by omega), if_pos (by rw [hlen2]; omega), e1, e2, hm3.1, hm3.2.1, hm3.2.2, fixd_length]
    have hstep := Ev.bind (f := fun k (bt : Bool × List Int) => if bt.1 = true then (if 0 ≤ (i : Int) then (if (i : Int) < (out.length : Int) then (nat_div.l0 k sh bt.2 v (m : Int) (out.set (i : Int).toNat ((q) % 4294967296)) (wrap64 ((i : Int) - 1))) else (none)) else (none)) else ((nat_give.f k bt.2 v (i : Int) ((i + m + 1 : Nat) : Int)).bind fun t208 => (if 0 ≤ (i : Int) then (if (i : Int) < (out.length : Int) then (nat_div.l0 k sh t208 v (m : Int) (out.set (i : Int).toNat ((IntKind.u64.wrap (q - 1)) % 4294967296)) (wrap64 ((i : Int) - 1))) else (none)) else (none)))) htake
      (ev_eq (fun k => if_neg (show ¬ (false = true) by decide)) (Ev.bind hgive (ev_eq (fun k => by rw [if_pos (by omega), if_pos d0, e2, u64_eq (x := q - 1) (by omega) (by omega), show (q - 1) % 4294967296 = q - 1 from Int.emod_eq_of_lt (by omega) (by omega), w64p i d2]) hn)))
    refine Ev.step (fun k => ?_) hstep
    simp only [nat_div.j3]
    rw [w64a i m d1, w64s _ d1]

/-! ### the guess, made smaller -/
theorem div_l1 {u v out : List Int} {sh : Int} {i m : Nat} {R : List Int × List Int} (hu : Dig u) (hv : Dig v) (hm : v.length = m) (hm2 : 2 ≤ m) (hL : i + m + 1 ≤ u.length) (hL2 : u.length ≤ 900000)
    {two us vt vs p U V : Int} (K : Kn two us vt vs p U V) (hus : dg u (i + m - 2) = us) (hvt : dg v (m - 1) = vt) (hvs : dg v (m - 2) = vs)
    (next : ∀ q : Int, 0 ≤ q → q < 4294967296 → U < (q + 1) * V → q * V ≤ U + V → Ev (fun k => nat_div.j3 k sh u v (m : Int) out (i : Int) q) R) (d : Nat) :
    ∀ q r : Int, 0 ≤ q → q < 8589934592 → 0 ≤ r → r < 4294967296 → two = q * vt + r → U < (q + 1) * V → 4294967296 ≤ r + d * 2147483648 →
    Ev (fun k => nat_div.l1 k sh u v (m : Int) out (i : Int) q r) R := by
  induction d with
  | zero => intro q r h0 h1 h2 h3 h4 h5 h6; omega
  | succ d ih =>
    intro q r hq0 hq1 hr0 hr1 hr hU hd
    have c0 : m ≤ 2000000 := by omega
    have c1 : i + m ≤ 2000000 := by omega
    have c2 : ((m - 2 : Nat) : Int) < (v.length : Int) := by omega
    have c3 : ((i + m - 2 : Nat) : Int) < (u.length : Int) := by omega
    have c4 : ((m - 1 : Nat) : Int) < (v.length : Int) := by omega
    have hvt0 := K.vt0
    have hvt1 := K.vt1
    have hus0 := K.us0
    have hus1 := K.us1
    have hvs0 := K.vs0
    have hvs1 := K.vs1
    -- made smaller by one
    have less : (4294967296 ≤ q ∨ r * 4294967296 + us < q * vs) → Ev (fun k => nat_div.j2 k sh u v (m : Int) out (i : Int) q r true) R := by
      intro hg
      have hl := K.less hq0 hr hU hg
      have hq2 : 1 ≤ q := by
        rcases Int.lt_or_le 0 q with h | h
        · omega
        · obtain rfl : q = 0 := by omega
          rw [Int.zero_mul] at hl
          have := K.Ulo
          have h2 : 0 ≤ (two * 4294967296 + us) * p := Int.mul_nonneg (by have := K.two0; omega) (by have := K.p0; omega)
          omega
      have hr' : two = (q - 1) * vt + (r + vt) := by grind
      have hbody : ∀ k, nat_div.j2 (k + 1) sh u v (m : Int) out (i : Int) q r true = if r + vt ≥ 4294967296 then nat_div.j3 k sh u v (m : Int) out (i : Int) (q - 1) else nat_div.l1 k sh u v (m : Int) out (i : Int) (q - 1) (r + vt) := by
        intro k
        simp only [nat_div.j2]
        rw [if_pos trivial, w64l (show 0 < m by omega) c0, if_pos (by omega), if_pos c4, rd_nat, hvt, u64_eq (x := vt) (by omega) (by omega), u64_eq (x := r + vt) (by omega) (by omega), u64_eq (x := q - 1) (by omega) (by omega)]
      refine Ev.step hbody ?_
      by_cases c : r + vt ≥ 4294967296
      · have hs := K.small hr' c
        refine ev_eq (fun k => if_pos c) (next (q - 1) (by omega) hs (by rw [show q - 1 + 1 = q by omega]; exact hl) (K.near (by omega) hs (by omega) hr' (.inr c)))
      · exact ev_eq (fun k => if_neg c) (ih (q - 1) (r + vt) (by omega) (by omega) (by omega) (by omega) hr' (by rw [show q - 1 + 1 = q by omega]; exact hl) (by omega))
    by_cases c : q ≥ 4294967296
    · refine Ev.step (fun k => ?_) (less (.inl c))
      simp only [nat_div.l1]
      rw [if_pos c]
    · have hb := mul_bound (A := 4294967295) (C := 4294967295) hq0 (by omega) hvs0 (by omega)
      have hbody : ∀ k, nat_div.l1 (k + 1) sh u v (m : Int) out (i : Int) q r = nat_div.j2 k sh u v (m : Int) out (i : Int) q r (decide (q * vs > r * 4294967296 + us)) := by
        intro k
        simp only [nat_div.l1]
        rw [if_neg c, w64l2 hm2 c0, if_pos (by omega), if_pos c2, w64a i m c1, w64l2 (by omega) c1, if_pos (by omega), if_pos c3, rd_nat, rd_nat, hvs, hus, u64_eq (x := vs) (by omega) (by omega), u64_eq (x := us) (by omega) (by omega),
          u64_eq (x := q * vs) hb.1 (by omega), u64_eq (x := r * 4294967296) (by omega) (by omega), or64 hr0 hr1 hus0 hus1]
      refine Ev.step hbody ?_
      by_cases c' : q * vs > r * 4294967296 + us
      · rw [decide_eq_true c']
        exact less (.inr c')
      · rw [decide_eq_false c']
        refine Ev.step (fun k => ?_) (next q hq0 (by omega) hU (K.near hq0 (by omega) hr0 hr (.inl (by omega))))
        simp only [nat_div.j2]
        rw [if_neg (by decide)]

/-! ### all digits of the quotient -/
theorem lo_top (l : List Int) {n : Nat} (hn : 2 ≤ n) (hl : l.length = n) : val l = lo l (n - 2) + pw (n - 2) * (dg l (n - 2) + 4294967296 * dg l (n - 1)) := by
  have h1 := lo_succ l (n - 2)
  have h2 := lo_succ l (n - 2 + 1)
  rw [show n - 2 + 1 + 1 = n by omega, lo_all (by omega), show n - 2 + 1 = n - 1 by omega, show n - 1 = (n - 2) + 1 by omega, pw_succ, h1] at h2
  rw [show n - 1 = (n - 2) + 1 by omega]
  grind
theorem lo_top3 (l : List Int) {n : Nat} (hn : 2 ≤ n) (hl : l.length = n + 1) : val l = lo l (n - 2) + pw (n - 2) * (dg l (n - 2) + 4294967296 * (dg l (n - 1) + 4294967296 * dg l n)) := by
  have h1 := lo_succ l (n - 2)
  have h2 := lo_succ l (n - 2 + 1)
  have h3 := lo_succ l n
  rw [lo_all (by omega)] at h3
  rw [show n - 2 + 1 + 1 = n by omega, h1] at h2
  rw [h2] at h3
  have e1 : pw n = 4294967296 * (4294967296 * pw (n - 2)) := by rw [← pw_succ, ← pw_succ, show n - 2 + 1 + 1 = n by omega]
  have e2 : pw (n - 2 + 1) = 4294967296 * pw (n - 2) := pw_succ _
  rw [show n - 2 + 1 = n - 1 by omega] at h3 e2
  rw [e1, e2] at h3
  rw [h3]
  grind
theorem kn_mk {seg v : List Int} {m : Nat} (hs : Dig seg) (hv : Dig v) (hm : v.length = m) (hm2 : 2 ≤ m) (hl : seg.length = m + 1) (hvt : 2147483648 ≤ dg v (m - 1)) (hUV : val seg < val v * 4294967296) :
    Kn (dg seg m * 4294967296 + dg seg (m - 1)) (dg seg (m - 2)) (dg v (m - 1)) (dg v (m - 2)) (pw (m - 2)) (val seg) (val v) := by
  have a0 := dg_dig hs m
  have a1 := dg_dig hs (m - 1)
  have a2 := dg_dig hs (m - 2)
  have b1 := dg_dig hv (m - 1)
  have b2 := dg_dig hv (m - 2)
  have e1 := lo_top3 seg hm2 hl
  have e2 := lo_top v hm2 hm
  have l1 := lo_nonneg hs (m - 2)
  have l2 := lo_lt hs (m - 2)
  have l3 := lo_nonneg hv (m - 2)
  have l4 := lo_lt hv (m - 2)
  have hp := pw_pos (m - 2)
  refine ⟨hp, a2.1, a2.2, b2.1, b2.2, hvt, b1.2, by omega, by omega, ?_, ?_, ?_, ?_, hUV⟩
  · rw [e1]; grind
  · rw [e1]; grind
  · rw [e2]; grind
  · rw [e2]; grind
theorem hi_cut {u : List Int} {i m : Nat} (hL : i + m + 1 ≤ u.length) : hi u i = val ((u.take (i + m + 1)).drop i) + pw (m + 1) * hi u (i + m + 1) := by
  obtain ⟨j1, j2, j3⟩ := cut_join u (show i ≤ i + m + 1 by omega) hL
  have e : u.drop i = (u.take (i + m + 1)).drop i ++ u.drop (i + m + 1) := by
    conv => lhs; rw [← j1]
    rw [List.append_assoc, List.drop_left' j3]
  unfold hi
  rw [e, val_append, j2, show i + m + 1 - i = m + 1 by omega]
theorem dg_cut {u : List Int} {i h j : Nat} (hj : i + j < h) : dg ((u.take h).drop i) j = dg u (i + j) := by rw [dg_drop, dg_take hj]
theorem div_loop {v : List Int} {n m L : Nat} (hn : n < 32) (hv : Dig v) (hm : v.length = m) (hm2 : 2 ≤ m) (hvt : 2147483648 ≤ dg v (m - 1)) (hL : L ≤ 900000) {N : Int} (c : Nat) :
    ∀ u out : List Int, u.length = L → Dig u → out.length + m = L → Dig out → c ≤ out.length → hi u c < val v → N = val v * (pw c * hi out c) + val u →
    Ev (fun k => nat_div.l0 k (n : Int) u v (m : Int) out ((c : Int) - 1)) (num (N / val v), num (N % val v / 2 ^ n)) := by
  have hV0 : 0 < val v := by
    have h1 := lo_top v hm2 hm
    have h2 := lo_nonneg hv (m - 2)
    have h3 := dg_dig hv (m - 2)
    have h4 : 0 < pw (m - 2) * (dg v (m - 2) + 4294967296 * dg v (m - 1)) := Int.mul_pos (pw_pos _) (by omega)
    omega
  induction c with
  | zero =>
    intro u out hul hu hol ho hc hh hN
    rw [hi_zero] at hh
    rw [pw_zero, Int.one_mul, hi_zero] at hN
    have hu0 := val_nonneg hu
    have hq : N / val v = val out := by rw [hN, Int.add_comm, Int.add_mul_ediv_left _ _ (by omega), Int.ediv_eq_zero_of_lt hu0 hh, Int.zero_add]
    have hr : N % val v = val u := by rw [hN, Int.add_comm, Int.add_mul_emod_self_left, Int.emod_eq_of_lt hu0 hh]
    rw [hq, hr, ← tr_num ho rfl]
    have hru := right_f (tr_canon hu).1 hn (by have := tr_length u; omega)
    rw [tr_val] at hru
    refine Ev.step (fun k => ?_) (Ev.bind (f := fun k (t189 : List Int) => (nat_trim.f k u).bind fun t192 => (nat_right.f k t192 (n : Int)).bind fun t195 => some (t189, t195)) (trim_f out (by omega))
      (Ev.bind (f := fun k (t192 : List Int) => (nat_right.f k t192 (n : Int)).bind fun t195 => some (tr out, t195)) (trim_f u (by omega)) (Ev.bind (f := fun k (t195 : List Int) => some (tr out, t195)) hru (ev_some _))))
    simp only [nat_div.l0]
    rw [if_neg (by omega)]
  | succ c ih =>
    intro u out hul hu hol ho hc hh hN
    have hLL : c + m + 1 ≤ u.length := by omega
    obtain ⟨j1, j2, j3⟩ := cut_join u (show c ≤ c + m + 1 by omega) hLL
    have hds : Dig ((u.take (c + m + 1)).drop c) := dig_drop (dig_take hu _) _
    have hlen : ((u.take (c + m + 1)).drop c).length = m + 1 := by rw [j2]; omega
    have hcut := hi_cut hLL
    have hst := hi_step u c
    have hdc := dg_dig hu c
    have hV1 : val v < pw m := by rw [← hm]; exact val_lt hv
    have hz : hi u (c + m + 1) = 0 := by
      have h0 := hi_nonneg hu (c + m + 1)
      rcases Int.lt_or_le 0 (hi u (c + m + 1)) with h | h
      · have h2 : pw (m + 1) * 1 ≤ pw (m + 1) * hi u (c + m + 1) := Int.mul_le_mul_of_nonneg_left (by omega) (by have := pw_pos (m + 1); omega)
        have h3 := val_nonneg hds
        rw [pw_succ] at h2 hcut
        omega
      · omega
    rw [hz, Int.mul_zero, Int.add_zero] at hcut
    have hUV : val ((u.take (c + m + 1)).drop c) < val v * 4294967296 := by omega
    have K := kn_mk hds hv hm hm2 hlen hvt hUV
    rw [dg_cut (by omega), dg_cut (by omega), dg_cut (by omega), show c + (m - 1) = c + m - 1 by omega, show c + (m - 2) = c + m - 2 by omega] at K
    have d0 : (c : Int) < (out.length : Int) := by omega
    have hlt : c < out.length := by omega
    have next : ∀ t : Int, 0 ≤ t → t < 4294967296 → t * val v ≤ val ((u.take (c + m + 1)).drop c) → val ((u.take (c + m + 1)).drop c) < (t + 1) * val v → Ev (fun k => nat_div.l0 k (n : Int) (u.take c ++ fixd (m + 1) (val ((u.take (c + m + 1)).drop c) - t * val v) ++ u.drop (c + m + 1)) v (m : Int) (out.set c t) ((c : Int) - 1)) (num (N / val v), num (N % val v / 2 ^ n)) := by
      intro t ht0 ht1 hlo hhi
      generalize hU : val ((u.take (c + m + 1)).drop c) = U at *
      have ex : (t + 1) * val v = t * val v + val v := by grind
      have hpm := pw_succ m
      have hfv : val (fixd (m + 1) (U - t * val v)) = U - t * val v := fixd_val _ (by omega) (by omega)
      have hm3 := mid_lists (pre := u.take c) (seg := fixd (m + 1) (U - t * val v)) (post := u.drop (c + m + 1)) (i := c) (h := c + m + 1) j3 (by rw [fixd_length]; omega)
      refine ih _ _ (by rw [List.length_append, List.length_append, j3, fixd_length, List.length_drop]; omega) (dig_append.2 ⟨dig_append.2 ⟨dig_take hu _, fixd_dig _ _⟩, dig_drop hu _⟩) (by rw [List.length_set]; exact hol) (dig_set ho ⟨ht0, ht1⟩) (by rw [List.length_set]; omega) ?_ ?_
      · have e : hi (u.take c ++ fixd (m + 1) (U - t * val v) ++ u.drop (c + m + 1)) c = U - t * val v := by
          have hz2 : val (u.drop (c + m + 1)) = 0 := hz
          unfold hi
          rw [List.append_assoc, List.drop_left' j3, val_append, hfv, hz2, Int.mul_zero, Int.add_zero]
        rw [e]
        omega
      · rw [hi_set_self _ hlt, val_append, val_append, hfv, j3]
        have e0 : val u = lo u c + pw c * U := by rw [lo_hi u c, hcut]
        have hz2 : val (u.drop (c + m + 1)) = 0 := hz
        have e1 : val (u.take c) = lo u c := rfl
        rw [hz2, e1, hN, e0, pw_succ]
        grind
    have first := K.first
    have h1 := div_l1 (sh := (n : Int)) (out := out) hu hv hm hm2 hLL (by omega) K rfl rfl rfl (fun q h0 h1 h2 h3 => div_j3 hu hv hm hLL (by omega) hlt h0 h1 rfl rfl hV0 h2 h3 next) 2 _ _ first.2.2.2.2.1 first.2.2.2.2.2 first.2.2.1 (by have := first.2.2.2.1; have := K.vt1; omega) first.2.1 first.1 (by have := first.2.2.1; omega)
    have d1 : c + m ≤ 2000000 := by omega
    have d2 : ((c + m : Nat) : Int) < (u.length : Int) := by omega
    have d3 : ((c + m - 1 : Nat) : Int) < (u.length : Int) := by omega
    have d4 : ((m - 1 : Nat) : Int) < (v.length : Int) := by omega
    have d5 : m ≤ 2000000 := by omega
    have a0 := dg_dig hu (c + m)
    have a1 := dg_dig hu (c + m - 1)
    have b1 := dg_dig hv (m - 1)
    have ht0 := K.two0
    have hq0 := first.2.2.2.2.1
    have hq1 := first.2.2.2.2.2
    refine Ev.step (fun k => ?_) h1
    simp only [nat_div.l0]
    rw [pred_succ, if_pos (by omega), w64a c m d1, if_pos (by omega), if_pos d2, w64l (by omega) d1, if_pos (by omega), if_pos d3, w64l (by omega) d5, if_pos (by omega), if_pos d4, rd_nat, rd_nat, rd_nat, u64_eq (x := dg v (m - 1)) b1.1 (by omega), if_neg (by omega),
      u64_eq (x := dg u (c + m)) a0.1 (by omega), u64_eq (x := dg u (c + m) * 4294967296) (by omega) (by omega), u64_eq (x := dg u (c + m - 1)) a1.1 (by omega), or64 a0.1 a0.2 a1.1 a1.2, Int.tdiv_eq_ediv_of_nonneg ht0, Int.tmod_eq_emod_of_nonneg ht0, u64_eq hq0 (by omega)]
end Go.Proofs.Ytceglknbonfdeaa.PNat
