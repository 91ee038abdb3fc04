/- What is written is read again, and the other way round. No program. -/
import Derived.Test.YtceglknbonfdeaaN14
namespace Go.Proofs.Ytceglknbonfdeaa.PNat
open Go.RowKit Go.Proofs.YtceglknbonfdeaaW.PrintWords Go.Proofs.YtceglknbonfdeaaW.PrintLast Go.Proofs.YtceglknbonfdeaaW.PrintMore
set_option linter.unusedVariables false

/-! ### bytes -/
theorem str_size (M : List Int) : (strOfNums M).size = M.length := by simp [strOfNums, ByteArray.size]
theorem bt_str {M : List Int} {i : Nat} (h : i < M.length) (h0 : 0 ≤ dg M i) (h1 : dg M i < 256) : bt (strOfNums M) (i : Int) = dg M i := by
  unfold bt
  rw [Int.toNat_natCast, dif_pos (by rw [str_size]; exact h)]
  have e : (strOfNums M)[i]'(by rw [str_size]; exact h) = UInt8.ofNat (dg M i).toNat := by
    rw [dg_lt h]
    simp [strOfNums, ByteArray.getElem_eq_getElem_data]
  rw [e, UInt8.toNat_ofNat']
  omega
theorem str_bytes {M : List Int} {b : ByteArray} (hl : M.length = b.size) (h : ∀ i, i < b.size → dg M i = bt b (i : Int)) : strOfNums M = b := by
  refine Go.WideShapes.bytes_inj ?_
  refine List.ext_getElem ?_ fun i h1 h2 => ?_
  · simp [strOfNums]
    exact hl
  · have hi : i < b.size := by simpa using h2
    have hm : i < M.length := by omega
    have h3 := h i hi
    unfold bt at h3
    rw [Int.toNat_natCast, dif_pos hi, dg_lt hm] at h3
    simp only [strOfNums, List.getElem_map]
    rw [h3, Int.toNat_natCast]
    simp [ByteArray.getElem_eq_getElem_data]
theorem tv_congr {a b : ByteArray} (n : Nat) (h : ∀ i, i < n → bt a (i : Int) = bt b (i : Int)) : tv a n = tv b n := by
  induction n with
  | zero => rfl
  | succ n ih =>
    show 10 * tv a n + (bt a (n : Int) - 48) = 10 * tv b n + (bt b (n : Int) - 48)
    rw [ih fun i hi => h i (by omega), h n (by omega)]

/-! ### written, then read -/
def DD (M : List Int) : Prop := ∀ i, i < M.length → 48 ≤ dg M i ∧ dg M i ≤ 57
theorem dec_dd (n : Nat) : ∀ v : Int, 0 ≤ v → v ≤ n → ∀ i, i < (dec v).length → 48 ≤ dg (dec v) i ∧ dg (dec v) i ≤ 57 := by
  induction n with
  | zero => intro v h h' i hi; obtain rfl : v = 0 := by omega
            exact absurd hi (by simp [dec_zero])
  | succ n ih =>
    intro v h h' i hi
    rcases Int.lt_or_le 0 v with hp | hp
    · rw [dec_step hp] at hi ⊢
      cases i with
      | zero => rw [dg_cons_zero]; omega
      | succ i => rw [dg_cons_succ]; exact ih (v / 10) (by omega) (by omega) i (by simpa using hi)
    · obtain rfl : v = 0 := by omega
      exact absurd hi (by simp [dec_zero])
theorem dec_DD {v : Int} (h : 0 ≤ v) : DD (dec v) := dec_dd v.toNat v h (by omega)
theorem DD.reverse {M : List Int} (h : DD M) : DD M.reverse := fun i hi => by
  rw [List.length_reverse] at hi
  rw [dg_reverse hi]
  exact h _ (by omega)
theorem DD.isD {M : List Int} (h : DD M) : ∀ t, t < (strOfNums M).size → IsD (strOfNums M) t := fun t ht => by
  rw [str_size] at ht
  have := h t ht
  unfold IsD
  rw [bt_str ht (by omega) (by omega)]
  exact this
theorem tv_snoc {M : List Int} {c : Int} (h : DD (M ++ [c])) : tv (strOfNums (M ++ [c])) (M.length + 1) = 10 * tv (strOfNums M) M.length + (c - 48) := by
  have hc := h M.length (by simp)
  rw [dg_append_right (Nat.le_refl _), Nat.sub_self, dg_cons_zero] at hc
  show 10 * tv (strOfNums (M ++ [c])) M.length + (bt (strOfNums (M ++ [c])) (M.length : Int) - 48) = _
  rw [bt_str (by simp) (by rw [dg_append_right (Nat.le_refl _), Nat.sub_self, dg_cons_zero]; omega) (by rw [dg_append_right (Nat.le_refl _), Nat.sub_self, dg_cons_zero]; omega), dg_append_right (Nat.le_refl _), Nat.sub_self, dg_cons_zero]
  rw [tv_congr (b := strOfNums M) M.length fun i hi => ?_]
  have h1 := h i (by simp; omega)
  rw [dg_append_left hi] at h1
  rw [bt_str (by simp; omega) (by rw [dg_append_left hi]; omega) (by rw [dg_append_left hi]; omega), dg_append_left hi, bt_str hi (by omega) (by omega)]
theorem tv_dec (n : Nat) : ∀ v : Int, 0 ≤ v → v ≤ n → tv (strOfNums (dec v).reverse) (dec v).length = v := by
  induction n with
  | zero => intro v h h'; obtain rfl : v = 0 := by omega
            rfl
  | succ n ih =>
    intro v h h'
    rcases Int.lt_or_le 0 v with hp | hp
    · have hD := (dec_DD h).reverse
      have hn := ih (v / 10) (by omega) (by omega)
      rw [dec_step hp, List.reverse_cons] at hD ⊢
      have e := tv_snoc hD
      rw [List.length_reverse, hn] at e
      rw [List.length_cons, e]
      omega
    · obtain rfl : v = 0 := by omega
      rfl
theorem dec_top (n : Nat) : ∀ v : Int, 0 < v → v ≤ n → dg (dec v) ((dec v).length - 1) ≠ 48 := by
  induction n with
  | zero => intro v h h'; omega
  | succ n ih =>
    intro v h h'
    rw [dec_step h]
    rcases Int.lt_or_le 0 (v / 10) with hp | hp
    · have hl : 0 < (dec (v / 10)).length := by
        rcases Nat.eq_zero_or_pos (dec (v / 10)).length with h0 | h0
        · have := (dec_nil (by omega)).1 (List.eq_nil_of_length_eq_zero h0)
          omega
        · exact h0
      have := ih (v / 10) hp (by omega)
      rw [List.length_cons, Nat.add_sub_cancel]
      obtain ⟨m, hm⟩ : ∃ m, (dec (v / 10)).length = m + 1 := ⟨(dec (v / 10)).length - 1, by omega⟩
      rw [hm] at this ⊢
      rw [dg_cons_succ]
      exact this
    · have : v / 10 = 0 := by omega
      rw [this, dec_zero]
      show 48 + v % 10 ≠ 48
      omega
theorem first_byte {v : Int} (h : 0 < v) : bt (strOfNums (dec v).reverse) 0 ≠ 48 := by
  have hD := (dec_DD (show 0 ≤ v by omega)).reverse
  have hl : 0 < (dec v).length := by rw [dec_step h]; simp
  have h1 := hD 0 (by rw [List.length_reverse]; exact hl)
  have e := bt_str (M := (dec v).reverse) (i := 0) (by rw [List.length_reverse]; exact hl) (by omega) (by omega)
  rw [dg_reverse hl] at e
  have := dec_top v.toNat v h (by omega)
  rw [Nat.sub_zero] at e
  intro h2
  exact this (by rw [← e]; exact h2)

/-! ### read, then written -/
theorem dec_tv {b : ByteArray} (hD : ∀ t, t < b.size → IsD b t) (h0 : bt b 0 ≠ 48) (n : Nat) (hn : n ≤ b.size) : (0 < n → 0 < tv b n) ∧ (dec (tv b n)).length = n ∧ ∀ i, i < n → dg (dec (tv b n)) i = bt b ((n - 1 - i : Nat) : Int) := by
  induction n with
  | zero => exact ⟨fun h => absurd h (by decide), rfl, fun i hi => absurd hi (by omega)⟩
  | succ n ih =>
    obtain ⟨i1, i2, i3⟩ := ih (by omega)
    obtain ⟨d1, d2⟩ := hD n (by omega)
    have et : tv b (n + 1) = 10 * tv b n + (bt b (n : Int) - 48) := rfl
    have hp : 0 < tv b (n + 1) := by
      rcases Nat.eq_zero_or_pos n with hz | hz
      · subst hz
        have e0 : tv b 0 = 0 := rfl
        have e1 : bt b ((0 : Nat) : Int) ≠ 48 := h0
        omega
      · have := i1 hz
        omega
    refine ⟨fun _ => hp, ?_⟩
    rw [dec_step hp, show tv b (n + 1) / 10 = tv b n by omega, show 48 + tv b (n + 1) % 10 = bt b (n : Int) by omega]
    refine ⟨by rw [List.length_cons, i2], fun i hi => ?_⟩
    cases i with
    | zero => rw [dg_cons_zero, Nat.add_sub_cancel, Nat.sub_zero]
    | succ i => rw [dg_cons_succ, i3 i (by omega)]; congr 2; omega
theorem text_tv {b : ByteArray} (hD : ∀ t, t < b.size → IsD b t) (h0 : bt b 0 ≠ 48) (hb : 0 < b.size) : strOfNums (dec (tv b b.size)).reverse = b := by
  obtain ⟨_, h1, h2⟩ := dec_tv hD h0 b.size (Nat.le_refl _)
  refine str_bytes (by rw [List.length_reverse]; exact h1) fun i hi => ?_
  rw [dg_reverse (by omega), h1, h2 _ (by omega)]
  congr 2
  omega

/-! ### sizes -/
theorem pow_base {a b : Int} (h0 : 0 ≤ a) (h : a ≤ b) (n : Nat) : 0 ≤ a ^ n ∧ a ^ n ≤ b ^ n := by
  induction n with
  | zero => rw [Int.pow_zero, Int.pow_zero]; decide
  | succ n ih =>
    rw [Int.pow_succ, Int.pow_succ]
    exact ⟨Int.mul_nonneg ih.1 h0, Int.mul_le_mul ih.2 h h0 (by omega)⟩
theorem pow_two_mono {a b : Nat} (h : a ≤ b) : (2 : Int) ^ a ≤ 2 ^ b := by exact_mod_cast Nat.pow_le_pow_right (by decide) h
theorem pw_is (i : Nat) : pw i = 2 ^ (32 * i) := by
  unfold pw
  rw [Int.pow_mul]
  rfl
theorem long_text {v : Int} (h0 : 0 ≤ v) (h : v < pw 512) : (dec v).length ≤ 4956 := by
  refine dec_len 4956 v h0 ?_
  have h1 : (2 : Int) ^ (32 * 512) ≤ 2 ^ (93 * 177) := pow_two_mono (by decide)
  rw [← pw_is] at h1
  have h2 : (2 : Int) ^ (93 * 177) = (2 ^ 93) ^ 177 := Int.pow_mul
  have h3 : (10 : Int) ^ (28 * 177) = (10 ^ 28) ^ 177 := Int.pow_mul
  have h4 : ((2 : Int) ^ 93) ^ 177 ≤ (10 ^ 28) ^ 177 := (pow_base (by decide) (by decide) 177).2
  rw [show 4956 = 28 * 177 from rfl, h3]
  omega
theorem short_value {b : ByteArray} (hD : ∀ t, t < b.size → IsD b t) (n : Nat) (hn : n ≤ b.size) : tv b n < 10 ^ n := by
  induction n with
  | zero => show (0 : Int) < 1; decide
  | succ n ih =>
    have := ih (by omega)
    obtain ⟨d1, d2⟩ := hD n (by omega)
    rw [Int.pow_succ]
    show 10 * tv b n + (bt b (n : Int) - 48) < 10 ^ n * 10
    omega
end Go.Proofs.Ytceglknbonfdeaa.PNat
