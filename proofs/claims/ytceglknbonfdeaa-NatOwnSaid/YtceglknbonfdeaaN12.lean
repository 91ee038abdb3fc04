/- Numbers as decimal text: the digits, turning a row of bytes round, and both ways to write a number. No program. -/
import Derived.Test.YtceglknbonfdeaaN7
import Derived.Test.YtceglknbonfdeaaN8
namespace Go.Proofs.Ytceglknbonfdeaa.PNat
open Go.RowKit Go.Proofs.YtceglknbonfdeaaW.PrintWords Go.Proofs.YtceglknbonfdeaaW.PrintLast Go.Proofs.YtceglknbonfdeaaW.PrintMore
set_option linter.unusedVariables false

/-! ### the digits, the lowest first -/
def decF : Nat → Int → List Int
  | 0, _ => []
  | k + 1, v => if v ≤ 0 then [] else (48 + v % 10) :: decF k (v / 10)
def dec (v : Int) : List Int := decF v.toNat v
theorem decF_enough (k : Nat) : ∀ (m : Nat) (v : Int), v ≤ k → v ≤ m → decF k v = decF m v := by
  induction k with
  | zero =>
    intro m v h _
    cases m with
    | zero => rfl
    | succ m => exact (if_pos (by omega)).symm
  | succ k ih =>
    intro m v h h'
    cases m with
    | zero => exact if_pos (by omega)
    | succ m =>
      show (if v ≤ 0 then [] else (48 + v % 10) :: decF k (v / 10)) = if v ≤ 0 then [] else (48 + v % 10) :: decF m (v / 10)
      by_cases h0 : v ≤ 0
      · rw [if_pos h0, if_pos h0]
      · rw [if_neg h0, if_neg h0, ih m (v / 10) (by omega) (by omega)]
theorem dec_zero : dec 0 = [] := rfl
theorem dec_step {v : Int} (h : 0 < v) : dec v = (48 + v % 10) :: dec (v / 10) := by
  unfold dec
  obtain ⟨n, hn⟩ : ∃ n, v.toNat = n + 1 := ⟨v.toNat - 1, by omega⟩
  rw [hn]
  show (if v ≤ 0 then [] else (48 + v % 10) :: decF n (v / 10)) = _
  rw [if_neg (by omega), decF_enough n (v / 10).toNat (v / 10) (by omega) (by omega)]
theorem dec_nil {v : Int} (h : 0 ≤ v) : dec v = [] ↔ v = 0 := by
  constructor
  · intro e
    rcases Int.lt_or_le 0 v with hp | hp
    · rw [dec_step hp] at e
      cases e
    · omega
  · intro e
    rw [e]
    rfl
/-! ### cutting noughts at the end -/
def tz : List Int → List Int
  | [] => []
  | c :: l => if tz l = [] then (if c = 48 then [] else [c]) else c :: tz l
theorem tz_cons (c : Int) (l : List Int) : tz (c :: l) = if tz l = [] then (if c = 48 then [] else [c]) else c :: tz l := rfl
theorem tz_append (a b : List Int) : tz (a ++ b) = tz (a ++ tz b) := by
  induction a with
  | nil =>
    rw [List.nil_append, List.nil_append]
    induction b with
    | nil => rfl
    | cons c l ih =>
      rw [tz_cons]
      by_cases h : tz l = []
      · rw [if_pos h]
        by_cases h' : c = 48
        · rw [if_pos h']; rfl
        · rw [if_neg h', tz_cons]
          exact (by rw [show tz ([] : List Int) = [] from rfl, if_pos rfl, if_neg h'])
      · rw [if_neg h, tz_cons, ← ih, if_neg h]
  | cons c l ih => rw [List.cons_append, List.cons_append, tz_cons, tz_cons, ih]
theorem tz_dec (n : Nat) : ∀ v : Int, 0 ≤ v → v ≤ n → tz (dec v) = dec v := by
  induction n with
  | zero => intro v h h'; obtain rfl : v = 0 := by omega
            rfl
  | succ n ih =>
    intro v h h'
    rcases Int.lt_or_le 0 v with hp | hp
    · rw [dec_step hp, tz_cons, ih (v / 10) (by omega) (by omega)]
      by_cases h0 : dec (v / 10) = []
      · have := (dec_nil (by omega)).1 h0
        rw [if_pos h0, h0, if_neg (by omega)]
      · rw [if_neg h0]
    · obtain rfl : v = 0 := by omega
      rfl
theorem tz_dec' {v : Int} (h : 0 ≤ v) : tz (dec v) = dec v := tz_dec v.toNat v h (by omega)
theorem tz_snoc_zero (l : List Int) : tz (l ++ [48]) = tz l := by
  rw [tz_append]
  rw [show tz [48] = [] from rfl, List.append_nil]
theorem tz_snoc (l : List Int) {d : Int} (h : d ≠ 48) : tz (l ++ [d]) = l ++ [d] := by
  induction l with
  | nil =>
    rw [List.nil_append, tz_cons, show tz ([] : List Int) = [] from rfl, if_pos rfl, if_neg h]
  | cons e l ih => rw [List.cons_append, tz_cons, ih, if_neg (by simp)]
def padn : Nat → Int → List Int
  | 0, _ => []
  | n + 1, v => (48 + v % 10) :: padn n (v / 10)
theorem padn_length (n : Nat) : ∀ v, (padn n v).length = n := by
  induction n with
  | zero => intro v; rfl
  | succ n ih => intro v; rw [padn, List.length_cons, ih]
theorem ten_pos (n : Nat) : (0 : Int) < 10 ^ n := Int.pow_pos (by decide)
theorem padn_dec (n : Nat) : ∀ v : Int, 0 ≤ v → tz (padn n v ++ dec (v / 10 ^ n)) = dec v := by
  induction n with
  | zero => intro v h; rw [Int.pow_zero, Int.ediv_one]; exact tz_dec' h
  | succ n ih =>
    intro v h
    have e : v / 10 ^ (n + 1) = v / 10 / 10 ^ n := by rw [Int.pow_succ, Int.mul_comm, Int.ediv_ediv_of_nonneg (by decide)]
    rw [padn, List.cons_append, tz_cons, e, ih (v / 10) (by omega)]
    rcases Int.lt_or_le 0 v with hp | hp
    · rw [dec_step hp]
      by_cases h0 : dec (v / 10) = []
      · have := (dec_nil (by omega)).1 h0
        rw [if_pos h0, h0, if_neg (by omega)]
      · rw [if_neg h0]
    · obtain rfl : v = 0 := by omega
      rfl
theorem padn_mod (n : Nat) : ∀ v : Int, 0 ≤ v → padn n (v % 10 ^ n) = padn n v := by
  induction n with
  | zero => intro v h; rfl
  | succ n ih =>
    intro v h
    have hp := ten_pos n
    have e1 := Int.mul_ediv_add_emod (v / 10) (10 ^ n)
    have e2 := Int.emod_nonneg (v / 10) (show (10 : Int) ^ n ≠ 0 by omega)
    have e3 := Int.emod_lt_of_pos (v / 10) hp
    have hm : v % 10 ^ (n + 1) = 10 * (v / 10 % 10 ^ n) + v % 10 := by
      have e4 : v = 10 ^ (n + 1) * (v / 10 / 10 ^ n) + (10 * (v / 10 % 10 ^ n) + v % 10) := by
        rw [Int.pow_succ]
        have e5 : v = 10 * (v / 10) + v % 10 := by omega
        have e6 : 10 * (v / 10) = 10 ^ n * 10 * (v / 10 / 10 ^ n) + 10 * (v / 10 % 10 ^ n) := by
          conv => lhs; rw [← e1]
          grind
        omega
      conv => lhs; rw [e4]
      rw [Int.add_comm, Int.add_mul_emod_self_left]
      exact Int.emod_eq_of_lt (by omega) (by rw [Int.pow_succ]; omega)
    rw [padn, padn, hm, show (10 * (v / 10 % 10 ^ n) + v % 10) % 10 = v % 10 by omega, show (10 * (v / 10 % 10 ^ n) + v % 10) / 10 = v / 10 % 10 ^ n by omega, ih (v / 10) (by omega)]

/-! ### turning a row round -/
theorem list_ext {a b : List Int} (hl : a.length = b.length) (h : ∀ i, i < a.length → dg a i = dg b i) : a = b := by
  refine List.ext_getElem hl fun i h1 h2 => ?_
  have := h i h1
  rwa [dg_lt h1, dg_lt h2] at this
theorem dg_reverse {x : List Int} {i : Nat} (h : i < x.length) : dg x.reverse i = dg x (x.length - 1 - i) := by
  rw [dg_lt (by rw [List.length_reverse]; exact h), dg_lt (by omega), List.getElem_reverse]
theorem swap_dg {y : List Int} {i j : Nat} (hi : i < y.length) (hj : j < y.length) (t : Nat) : dg ((y.set i (dg y j)).set j (dg y i)) t = if t = j then dg y i else if t = i then dg y j else dg y t := by
  rw [dg_set _ _ (by rw [List.length_set]; exact hj)]
  by_cases h : t = j
  · rw [if_pos h, if_pos h]
  · rw [if_neg h, if_neg h, dg_set _ _ hi]
/-- Turned round from both ends as far as i. -/
def Turned (x y : List Int) (i : Nat) : Prop := y.length = x.length ∧ ∀ t, t < x.length → dg y t = if t < i ∨ x.length - 1 - t < i then dg x (x.length - 1 - t) else dg x t
theorem turned_zero (x : List Int) : Turned x x 0 := ⟨rfl, fun t ht => by rw [if_neg (by omega)]⟩
theorem turned_end {x y : List Int} {i : Nat} (h : Turned x y i) (hi : x.length ≤ 2 * i + 1) : y = x.reverse := by
  refine list_ext (by rw [List.length_reverse]; exact h.1) fun t ht => ?_
  rw [h.1] at ht
  rw [h.2 t ht, dg_reverse ht]
  by_cases hc : t < i ∨ x.length - 1 - t < i
  · rw [if_pos hc]
  · rw [if_neg hc]
    congr 1
    omega
theorem turned_step {x y : List Int} {i : Nat} (h : Turned x y i) (hi : 2 * i + 1 < x.length) : Turned x ((y.set i (dg y (x.length - 1 - i))).set (x.length - 1 - i) (dg y i)) (i + 1) := by
  obtain ⟨hl, hd⟩ := h
  refine ⟨by rw [List.length_set, List.length_set]; exact hl, fun t ht => ?_⟩
  rw [swap_dg (by omega) (by omega)]
  by_cases h1 : t = x.length - 1 - i
  · rw [if_pos h1, hd i (by omega), if_neg (by omega), if_pos (by omega)]
    congr 1
    omega
  · rw [if_neg h1]
    by_cases h2 : t = i
    · rw [if_pos h2, hd _ (by omega), if_neg (by omega), if_pos (by omega), h2]
    · rw [if_neg h2, hd t ht]
      by_cases h3 : t < i ∨ x.length - 1 - t < i
      · rw [if_pos h3, if_pos (by omega)]
      · rw [if_neg h3, if_neg (by omega)]
theorem reverse_loop (x : List Int) (hs : x.length ≤ 1000000) (d : Nat) : ∀ (i : Nat) (y : List Int), Turned x y i → x.length ≤ 2 * i + d → 2 * i ≤ x.length + 1 → Ev (fun k => slices_Reverse_byte_byte.l0 k y (i : Int) ((x.length : Int) - 1 - (i : Int))) x.reverse := by
  induction d with
  | zero =>
    intro i y h h1 h2
    rw [← turned_end h (by omega)]
    refine ev_succ ?_
    simp only [slices_Reverse_byte_byte.l0]
    exact ev_else (by omega) (ev_some _)
  | succ d ih =>
    intro i y h h1 h2
    refine ev_succ ?_
    simp only [slices_Reverse_byte_byte.l0]
    by_cases hc : 2 * i + 1 < x.length
    · have hn := ih (i + 1) _ (turned_step h hc) (by omega) (by omega)
      have e : (x.length : Int) - 1 - (i : Int) = ((x.length - 1 - i : Nat) : Int) := by omega
      have hl := h.1
      have c1 : ((x.length - 1 - i : Nat) : Int) < (y.length : Int) := by omega
      have c2 : (i : Int) < (y.length : Int) := by omega
      have c3 : i ≤ 2000000 := by omega
      rw [e]
      refine ev_if (by omega) (ev_if (by omega) (ev_if c1 (ev_if (by omega) (ev_if c2 (ev_eq (fun k => ?_) hn)))))
      rw [rd_nat, rd_nat, Int.toNat_natCast, Int.toNat_natCast, w64s i c3, w64p _ (by omega)]
      congr 1
      omega
    · rw [← turned_end h (by omega)]
      exact ev_else (by omega) (ev_some _)
theorem reverse_f (x : List Int) (hs : x.length ≤ 1000000) : Ev (fun k => slices_Reverse_byte_byte.f k x) x.reverse := by
  have h := reverse_loop x hs x.length 0 x (turned_zero x) (by omega) (by omega)
  unfold slices_Reverse_byte_byte.f
  refine ev_eq (fun k => ?_) h
  rw [w64p _ (by omega)]
  congr 1
  omega

/-! ### the program's way to write a number -/
theorem text_l2 (x : List Int) (n : Nat) : ∀ y : List Int, y.length ≤ n → n ≤ 1000000 → tz y = x → x ≠ [] → Ev (fun k => nat_Text.l2 k y) (strOfNums x.reverse, 0) := by
  induction n with
  | zero =>
    intro y hy _ hx hx0
    obtain rfl := List.eq_nil_of_length_eq_zero (show y.length = 0 by omega)
    exact absurd hx.symm hx0
  | succ n ih =>
    intro y hy hn hx hx0
    rcases List.eq_nil_or_concat y with h0 | ⟨z, d, h0⟩
    · subst h0
      exact absurd hx.symm hx0
    · rw [List.concat_eq_append] at h0
      subst h0
      have hl : (z ++ [d]).length = z.length + 1 := by simp
      have hz : z.length ≤ 2000000 := by omega
      have er : rd (z ++ [d]) (z.length : Int) = d := by rw [rd_nat, dg_append_right (Nat.le_refl _), Nat.sub_self, dg_cons_zero]
      refine ev_succ ?_
      simp only [nat_Text.l2]
      rw [hl, w64q _ hz, er, Int.toNat_natCast, List.take_left]
      refine ev_if (by omega) (ev_if (by omega) ?_)
      by_cases h : d = 48
      · rw [h, tz_snoc_zero] at hx
        exact ev_if h (ev_if (by omega) (ih z (by omega) (by omega) hx hx0))
      · rw [tz_snoc z h] at hx
        subst hx
        exact ev_else h (Ev.bind (reverse_f _ (by omega)) (ev_some _))
theorem text_l1 (v : Int) (x : List Int) (r : ByteArray × Int) (out : List Int) (ho : out.length ≤ 900000) (d : Nat) : ∀ (i : Nat) (y : List Int) (w : Int), 9 = i + d → 0 ≤ w → w < 4294967296 → y.length ≤ 900000 + i → out = y ++ padn d w →
    Ev (fun k => nat_Text.l0 k x out) r → Ev (fun k => nat_Text.l1 k x y w (i : Int)) r := by
  induction d with
  | zero =>
    intro i y w hi w0 w1 hy hout h
    rw [padn, List.append_nil] at hout
    subst hout
    refine ev_succ ?_
    simp only [nat_Text.l1]
    exact ev_else (by omega) h
  | succ d ih =>
    intro i y w hi w0 w1 hy hout h
    have hn := ih (i + 1) (y ++ [48 + w % 10]) (w / 10) (by omega) (by omega) (by omega) (by simp; omega) (by rw [hout, padn, List.append_assoc]; rfl) h
    refine ev_succ ?_
    simp only [nat_Text.l1]
    refine ev_if (by omega) (ev_if (small_lt' (by omega)) (ev_eq (fun k => ?_) hn))
    rw [Int.tmod_eq_emod_of_nonneg w0, Int.tdiv_eq_ediv_of_nonneg w0, show (48 + w % 10) % 256 = 48 + w % 10 by omega, show w / 10 % 4294967296 = w / 10 by omega, w64s i (by omega)]
theorem text_l0 (V : Int) (hV : 0 < V) (n : Nat) : ∀ (x y : List Int), Canon x → x.length ≤ 512 → val x < 1000000000 ^ n → y.length + 9 * n ≤ 600000 → tz (y ++ dec (val x)) = dec V → Ev (fun k => nat_Text.l0 k x y) (strOfNums (dec V).reverse, 0) := by
  have hne : dec V ≠ [] := fun h => by have := (dec_nil (by omega)).1 h; omega
  induction n with
  | zero =>
    intro x y cx sx hx hy h
    have v0 := val_nonneg cx.1
    have hz : val x = 0 := by rw [Int.pow_zero] at hx; omega
    have h0 := cx.zero.1 hz
    subst h0
    rw [val_nil, dec_zero, List.append_nil] at h
    refine ev_succ ?_
    simp only [nat_Text.l0]
    exact ev_else (by decide) (text_l2 _ 600000 y (by omega) (by omega) h hne)
  | succ n ih =>
    intro x y cx sx hx hy h
    have v0 := val_nonneg cx.1
    refine ev_succ ?_
    simp only [nat_Text.l0]
    rcases Nat.eq_zero_or_pos x.length with h0 | h0
    · obtain rfl := List.eq_nil_of_length_eq_zero h0
      rw [val_nil, dec_zero, List.append_nil] at h
      exact ev_else (by decide) (text_l2 _ 600000 y (by omega) (by omega) h hne)
    · have q0 : 0 ≤ val x / 1000000000 := Int.ediv_nonneg v0 (by decide)
      have q1 : val x / 1000000000 ≤ val x := Int.ediv_le_self _ v0
      have ql : (num (val x / 1000000000)).length ≤ 512 := num_len q0 (by have := val_512 cx.1 sx; omega)
      have e9 : (10 : Int) ^ 9 = 1000000000 := by decide
      have hp := padn_mod 9 (val x) v0
      rw [e9] at hp
      have hd := padn_dec 9 (val x) v0
      rw [e9] at hd
      have hn := ih (num (val x / 1000000000)) (y ++ padn 9 (val x % 1000000000)) (num_canon q0) ql (by
          rw [num_val q0]
          rw [Int.pow_succ] at hx
          exact Int.ediv_lt_of_lt_mul (by decide) hx) (by rw [List.length_append, padn_length]; omega) (by
          rw [num_val q0, hp, List.append_assoc, tz_append, hd]
          exact h)
      have m0 : 0 ≤ val x % 1000000000 := Int.emod_nonneg _ (by decide)
      have m1 : val x % 1000000000 < 1000000000 := Int.emod_lt_of_pos _ (by decide)
      exact ev_if (by omega) (Ev.bind (short_f cx.1 1000000000 (by decide) (by decide) (by omega)) (text_l1 V _ _ _ (by rw [List.length_append, padn_length]; omega) 9 0 y _ (by omega) m0 (by omega) (by omega) rfl hn))
theorem small_power {n : Nat} (h : n ≤ 512) : pw n ≤ 1000000000 ^ (2 * n) := by
  induction n with
  | zero => decide
  | succ n ih =>
    have := ih (by omega)
    rw [pw_succ, show 2 * (n + 1) = 2 * n + 1 + 1 by omega, Int.pow_succ, Int.pow_succ]
    have h1 : (0 : Int) < 1000000000 ^ (2 * n) := Int.pow_pos (by decide)
    omega
theorem Text_ok {x : List Int} (cx : Canon x) (sx : x.length ≤ 512) : Ev (fun k => nat_Text.f k x) (if x.length = 0 then (⟨#[48]⟩ : ByteArray) else strOfNums (dec (val x)).reverse, 0) := by
  have f1 := form1 x (by omega)
  rw [fE_ok sx cx] at f1
  unfold nat_Text.f
  rcases Nat.eq_zero_or_pos x.length with h0 | h0
  · rw [if_pos h0]
    exact Ev.bind f1 (ev_if rfl (ev_if (by omega) (ev_some _)))
  · rw [if_neg (by omega)]
    have v0 := cx.pos h0
    refine Ev.bind f1 (ev_if rfl (ev_else (by omega) (ev_val (clone_eq x (by omega)) ?_)))
    exact text_l0 (val x) v0 (2 * x.length) x [] cx sx (by have := val_lt cx.1; have := small_power sx; omega) (by rw [List.length_nil]; omega) (by rw [List.nil_append]; exact tz_dec' (by omega))
end Go.Proofs.Ytceglknbonfdeaa.PNat
