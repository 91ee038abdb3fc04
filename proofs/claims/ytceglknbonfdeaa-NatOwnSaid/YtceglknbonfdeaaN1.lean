/- Numbers as lists of digits to the base 2^32: values, cuts, stores, lists without zeros at their end. Plain mathematics: no program. -/
import Derived.Test.YtceglknbonfdeaaWWords
import Derived.Test.YtceglknbonfdeaaWMore
import Derived.Laws.BitsLemmas
namespace Go.Proofs.Ytceglknbonfdeaa.PNat
set_option linter.unusedVariables false
open Go.RowKit Go.Proofs.YtceglknbonfdeaaW.PrintWords Go.Proofs.YtceglknbonfdeaaW.PrintLast Go.Proofs.YtceglknbonfdeaaW.PrintMore

/-! ### values -/
def val : List Int → Int
  | [] => 0
  | d :: l => d + 4294967296 * val l
def pw (n : Nat) : Int := 4294967296 ^ n
def Dig (l : List Int) : Prop := ∀ x ∈ l, 0 ≤ x ∧ x < 4294967296
def dg (l : List Int) (i : Nat) : Int := l.getD i 0
theorem pw_zero : pw 0 = 1 := rfl
theorem pw_succ (n : Nat) : pw (n + 1) = 4294967296 * pw n := by unfold pw; rw [Int.pow_succ, Int.mul_comm]
theorem pw_pos (n : Nat) : 0 < pw n := Int.pow_pos (by decide)
theorem pw_add (a b : Nat) : pw (a + b) = pw a * pw b := Int.pow_add _ _ _
theorem pw_mono {a b : Nat} (h : a ≤ b) : pw a ≤ pw b := by
  obtain ⟨c, rfl⟩ := Nat.le.dest h
  rw [pw_add]
  have h1 := pw_pos a
  have h2 := pw_pos c
  have h3 : pw a * 1 ≤ pw a * pw c := Int.mul_le_mul_of_nonneg_left (by omega) (by omega)
  omega
theorem val_nil : val [] = 0 := rfl
theorem val_cons (d : Int) (l : List Int) : val (d :: l) = d + 4294967296 * val l := rfl
theorem val_append (a b : List Int) : val (a ++ b) = val a + pw a.length * val b := by
  induction a with
  | nil => simp [val, pw]
  | cons d l ih => rw [List.cons_append, val_cons, val_cons, ih, List.length_cons, pw_succ]; grind
theorem val_snoc (a : List Int) (d : Int) : val (a ++ [d]) = val a + pw a.length * d := by rw [val_append, val_cons, val_nil]; grind
theorem dig_nil : Dig [] := fun x h => by cases h
theorem dig_cons {d : Int} {l : List Int} : Dig (d :: l) ↔ (0 ≤ d ∧ d < 4294967296) ∧ Dig l := by simp [Dig]
theorem dig_append {a b : List Int} : Dig (a ++ b) ↔ Dig a ∧ Dig b := by
  constructor
  · exact fun h => ⟨fun x hx => h x (List.mem_append_left _ hx), fun x hx => h x (List.mem_append_right _ hx)⟩
  · rintro ⟨h1, h2⟩ x hx
    rcases List.mem_append.1 hx with h | h
    · exact h1 x h
    · exact h2 x h
theorem dig_take {l : List Int} (h : Dig l) (i : Nat) : Dig (l.take i) := fun x hx => h x (List.mem_of_mem_take hx)
theorem dig_drop {l : List Int} (h : Dig l) (i : Nat) : Dig (l.drop i) := fun x hx => h x (List.mem_of_mem_drop hx)
theorem dig_replicate (n : Nat) : Dig (List.replicate n 0) := fun x hx => by rw [List.eq_of_mem_replicate hx]; omega
theorem val_replicate (n : Nat) : val (List.replicate n 0) = 0 := by
  induction n with
  | zero => rfl
  | succ n ih => rw [List.replicate_succ, val_cons, ih]; rfl
theorem val_nonneg {l : List Int} (h : Dig l) : 0 ≤ val l := by
  induction l with
  | nil => exact Int.le_refl _
  | cons d l ih =>
    have h1 := (dig_cons.1 h).1
    have h2 := ih (dig_cons.1 h).2
    rw [val_cons]
    omega
theorem val_lt {l : List Int} (h : Dig l) : val l < pw l.length := by
  induction l with
  | nil => exact Int.zero_lt_one
  | cons d l ih =>
    have h1 := (dig_cons.1 h).1
    have h2 := ih (dig_cons.1 h).2
    rw [val_cons, List.length_cons, pw_succ]
    omega
/-! ### digits -/
theorem rd_nat (l : List Int) (i : Nat) : rd l (i : Int) = dg l i := by unfold rd dg; rw [Int.toNat_natCast]
theorem dg_of_ge {l : List Int} {i : Nat} (h : l.length ≤ i) : dg l i = 0 := by unfold dg; rw [List.getD_eq_getElem?_getD, List.getElem?_eq_none h]; rfl
theorem dg_lt {l : List Int} {i : Nat} (h : i < l.length) : dg l i = l[i] := by unfold dg; rw [List.getD_eq_getElem?_getD, List.getElem?_eq_getElem h]; rfl
theorem dg_mem {l : List Int} {i : Nat} (h : i < l.length) : dg l i ∈ l := by rw [dg_lt h]; exact List.getElem_mem h
theorem dg_dig {l : List Int} (h : Dig l) (i : Nat) : 0 ≤ dg l i ∧ dg l i < 4294967296 := by
  rcases Nat.lt_or_ge i l.length with hi | hi
  · exact h _ (dg_mem hi)
  · rw [dg_of_ge hi]; omega
theorem dg_cons_zero (d : Int) (l : List Int) : dg (d :: l) 0 = d := rfl
theorem dg_cons_succ (d : Int) (l : List Int) (i : Nat) : dg (d :: l) (i + 1) = dg l i := rfl
theorem dg_nil (i : Nat) : dg [] i = 0 := rfl
theorem dg_append_right {a b : List Int} {i : Nat} (h : a.length ≤ i) : dg (a ++ b) i = dg b (i - a.length) := by unfold dg; simp only [List.getD_eq_getElem?_getD]; rw [List.getElem?_append_right h]
theorem dg_take {l : List Int} {i n : Nat} (h : i < n) : dg (l.take n) i = dg l i := by unfold dg; simp only [List.getD_eq_getElem?_getD]; rw [List.getElem?_take_of_lt h]
theorem dg_drop (l : List Int) (i n : Nat) : dg (l.drop n) i = dg l (n + i) := by unfold dg; simp only [List.getD_eq_getElem?_getD]; rw [List.getElem?_drop]
theorem dg_replicate (n i : Nat) : dg (List.replicate n 0) i = 0 := by
  rcases Nat.lt_or_ge i n with h | h
  · rw [dg_lt (by simpa using h), List.getElem_replicate]
  · exact dg_of_ge (by simpa using h)
theorem dg_set {l : List Int} {i : Nat} (v : Int) (j : Nat) (h : i < l.length) : dg (l.set i v) j = if j = i then v else dg l j := by
  unfold dg
  simp only [List.getD_eq_getElem?_getD]
  by_cases e : j = i
  · subst e; rw [List.getElem?_set_self h, if_pos rfl]; rfl
  · rw [List.getElem?_set_ne (Ne.symm e), if_neg e]
theorem dig_set {l : List Int} (h : Dig l) {i : Nat} {v : Int} (hv : 0 ≤ v ∧ v < 4294967296) : Dig (l.set i v) := fun x hx => by
  rcases List.mem_or_eq_of_mem_set hx with h1 | h1
  · exact h x h1
  · rw [h1]; exact hv
theorem val_set {l : List Int} {i : Nat} (v : Int) (h : i < l.length) : val (l.set i v) = val l + pw i * (v - dg l i) := by
  induction l generalizing i with
  | nil => cases h
  | cons d l ih =>
    cases i with
    | zero => rw [List.set_cons_zero, val_cons, val_cons, dg_cons_zero, pw_zero]; omega
    | succ i => rw [List.set_cons_succ, val_cons, val_cons, ih (by simpa using h), dg_cons_succ, pw_succ]; grind
/-! ### the first digits, and the others -/
def lo (l : List Int) (i : Nat) : Int := val (l.take i)
def hi (l : List Int) (i : Nat) : Int := val (l.drop i)
theorem lo_zero (l : List Int) : lo l 0 = 0 := by simp [lo, val]
theorem lo_succ (l : List Int) (i : Nat) : lo l (i + 1) = lo l i + pw i * dg l i := by
  unfold lo
  induction l generalizing i with
  | nil => simp [val, dg_nil]
  | cons d l ih =>
    cases i with
    | zero => simp only [List.take_succ_cons, List.take_zero, val_cons, val_nil, dg_cons_zero, pw_zero]; omega
    | succ i => rw [List.take_succ_cons, val_cons, ih, List.take_succ_cons, val_cons, dg_cons_succ, pw_succ]; grind
theorem lo_all {l : List Int} {i : Nat} (h : l.length ≤ i) : lo l i = val l := by rw [lo, List.take_of_length_le h]
theorem hi_zero (l : List Int) : hi l 0 = val l := by simp [hi]
theorem hi_step (l : List Int) (i : Nat) : hi l i = dg l i + 4294967296 * hi l (i + 1) := by
  unfold hi
  induction l generalizing i with
  | nil => simp [val, dg_nil]
  | cons d l ih =>
    cases i with
    | zero => rw [List.drop_zero, val_cons, dg_cons_zero, List.drop_succ_cons, List.drop_zero]
    | succ i => rw [List.drop_succ_cons, ih, dg_cons_succ, List.drop_succ_cons]
theorem hi_all {l : List Int} {i : Nat} (h : l.length ≤ i) : hi l i = 0 := by rw [hi, List.drop_eq_nil_of_le h, val_nil]
theorem lo_hi (l : List Int) (i : Nat) : val l = lo l i + pw i * hi l i := by
  rcases Nat.le_total i l.length with h | h
  · have e := val_append (l.take i) (l.drop i)
    rw [List.take_append_drop, List.length_take, Nat.min_eq_left h] at e
    exact e
  · rw [lo_all h, hi_all h]; grind
theorem lo_nonneg {l : List Int} (h : Dig l) (i : Nat) : 0 ≤ lo l i := val_nonneg (dig_take h i)
theorem lo_lt {l : List Int} (h : Dig l) (i : Nat) : lo l i < pw i := by
  have h1 := val_lt (dig_take h i)
  have h2 : pw (l.take i).length ≤ pw i := pw_mono (by rw [List.length_take]; exact Nat.min_le_left _ _)
  unfold lo
  omega
theorem hi_nonneg {l : List Int} (h : Dig l) (i : Nat) : 0 ≤ hi l i := val_nonneg (dig_drop h i)
/-- Two lists of as many digits, of the same value, are the same. -/
theorem val_inj {a b : List Int} (ha : Dig a) (hb : Dig b) (hl : a.length = b.length) (hv : val a = val b) : a = b := by
  induction a generalizing b with
  | nil => cases b with | nil => rfl | cons => simp at hl
  | cons d l ih =>
    cases b with
    | nil => simp at hl
    | cons e m =>
      have h1 := (dig_cons.1 ha).1
      have h2 := (dig_cons.1 hb).1
      rw [val_cons, val_cons] at hv
      have h3 : d = e := by omega
      have h4 : val l = val m := by omega
      rw [h3, ih (dig_cons.1 ha).2 (dig_cons.1 hb).2 (by simpa using hl) h4]
/-! ### without zeros at the end -/
def Canon (l : List Int) : Prop := Dig l ∧ (l = [] ∨ dg l (l.length - 1) ≠ 0)
theorem canon_nil : Canon [] := ⟨dig_nil, .inl rfl⟩
theorem Canon.last {l : List Int} (h : Canon l) (hn : 0 < l.length) : 1 ≤ dg l (l.length - 1) := by
  rcases h.2 with h2 | h2
  · rw [h2] at hn; simp at hn
  · have := dg_dig h.1 (l.length - 1); omega
theorem Canon.ge {l : List Int} (h : Canon l) (hn : 0 < l.length) : pw (l.length - 1) ≤ val l := by
  have h1 := lo_hi l (l.length - 1)
  have h2 := hi_step l (l.length - 1)
  rw [show l.length - 1 + 1 = l.length by omega, hi_all (Nat.le_refl _)] at h2
  have h3 := lo_nonneg h.1 (l.length - 1)
  have h4 := h.last hn
  have h5 := pw_pos (l.length - 1)
  rw [h1, h2]
  have h6 : pw (l.length - 1) * 1 ≤ pw (l.length - 1) * (dg l (l.length - 1) + 4294967296 * 0) := Int.mul_le_mul_of_nonneg_left (by omega) (by omega)
  omega
theorem Canon.len_le {l : List Int} (h : Canon l) {n : Nat} (hv : val l < pw n) : l.length ≤ n := by
  rcases Nat.lt_or_ge n l.length with hn | hn
  · have h1 := h.ge (by omega)
    have h2 : pw n ≤ pw (l.length - 1) := pw_mono (by omega)
    omega
  · exact hn
theorem Canon.inj {a b : List Int} (ha : Canon a) (hb : Canon b) (hv : val a = val b) : a = b := by
  have h1 : a.length ≤ b.length := ha.len_le (by rw [hv]; exact val_lt hb.1)
  have h2 : b.length ≤ a.length := hb.len_le (by rw [← hv]; exact val_lt ha.1)
  exact val_inj ha.1 hb.1 (by omega) hv
theorem Canon.zero {l : List Int} (h : Canon l) : val l = 0 ↔ l = [] := ⟨fun hv => h.inj canon_nil (by rw [hv]; rfl), fun e => by rw [e]; rfl⟩
theorem Canon.pos {l : List Int} (h : Canon l) (hn : 0 < l.length) : 0 < val l := by have := h.ge hn; have := pw_pos (l.length - 1); omega
theorem Canon.len_pos {l : List Int} (h : Canon l) (hv : 0 < val l) : 0 < l.length := by
  rcases Nat.eq_zero_or_pos l.length with h0 | h0
  · rw [List.eq_nil_of_length_eq_zero h0] at hv; exact absurd hv (by simp [val])
  · exact h0
/-- The list of the digits without the zeros at its end. -/
def tr : List Int → List Int
  | [] => []
  | d :: l => match tr l with
    | [] => if d = 0 then [] else [d]
    | e :: m => d :: e :: m
theorem tr_cons (d : Int) (l : List Int) : tr (d :: l) = if tr l = [] then (if d = 0 then [] else [d]) else d :: tr l := by
  show (match tr l with | [] => if d = 0 then [] else [d] | e :: m => d :: e :: m) = _
  cases tr l with
  | nil => exact (if_pos rfl).symm
  | cons e m => exact (if_neg (fun h => by cases h)).symm
theorem tr_val (l : List Int) : val (tr l) = val l := by
  induction l with
  | nil => rfl
  | cons d l ih =>
    rw [tr_cons]
    by_cases h : tr l = []
    · rw [if_pos h]
      rw [h] at ih
      by_cases e : d = 0
      · rw [if_pos e, val_cons, ← ih, e]; rfl
      · rw [if_neg e, val_cons, val_cons, ← ih]
    · rw [if_neg h, val_cons, val_cons, ih]
theorem tr_length (l : List Int) : (tr l).length ≤ l.length := by
  induction l with
  | nil => exact Nat.le_refl _
  | cons d l ih =>
    rw [tr_cons]
    by_cases h : tr l = []
    · rw [if_pos h]
      by_cases e : d = 0
      · rw [if_pos e]; simp
      · rw [if_neg e]; simp
    · rw [if_neg h]; simpa using ih
theorem tr_canon {l : List Int} (hl0 : Dig l) : Canon (tr l) := by
  induction l with
  | nil => exact canon_nil
  | cons d l ih =>
    have hd := (dig_cons.1 hl0).1
    have hl := ih (dig_cons.1 hl0).2
    rw [tr_cons]
    by_cases h : tr l = []
    · rw [if_pos h]
      by_cases e : d = 0
      · rw [if_pos e]; exact canon_nil
      · rw [if_neg e]; exact ⟨dig_cons.2 ⟨hd, dig_nil⟩, .inr e⟩
    · rw [if_neg h]
      refine ⟨dig_cons.2 ⟨hd, hl.1⟩, .inr ?_⟩
      obtain ⟨n, hn⟩ : ∃ n, (tr l).length = n + 1 := ⟨(tr l).length - 1, by have := List.length_pos_iff.2 h; omega⟩
      have h2 := hl.2.resolve_left h
      rw [hn] at h2
      rw [List.length_cons, hn]
      simpa [dg_cons_succ] using h2
/-- It is the number's own list. -/
theorem tr_eq {l m : List Int} (h : Dig l) (hm : Canon m) (hv : val l = val m) : tr l = m := (tr_canon h).inj hm (by rw [tr_val, hv])
theorem tr_snoc_zero (l : List Int) : tr (l ++ [0]) = tr l := by
  induction l with
  | nil => rfl
  | cons d l ih => rw [List.cons_append, tr_cons, tr_cons, ih]
theorem tr_snoc (l : List Int) {d : Int} (h : d ≠ 0) : tr (l ++ [d]) = l ++ [d] := by
  induction l with
  | nil => simp [tr, h]
  | cons e l ih => rw [List.cons_append, tr_cons, ih, if_neg (by simp)]
/-! ### machine numbers -/
theorem w64 {x : Int} (h1 : -9223372036854775808 ≤ x) (h2 : x ≤ 9223372036854775807) : wrap64 x = x := by unfold wrap64; omega
theorem w64s (i : Nat) (h : i ≤ 2000000) : wrap64 ((i : Int) + 1) = ((i + 1 : Nat) : Int) := by rw [w64 (by omega) (by omega)]; omega
theorem w64p (n : Nat) (h : n ≤ 2000000) : wrap64 ((n : Int) - 1) = (n : Int) - 1 := w64 (by omega) (by omega)
theorem w64q (n : Nat) (h : n ≤ 2000000) : wrap64 (((n + 1 : Nat) : Int) - 1) = (n : Int) := by rw [w64 (by omega) (by omega)]; omega
theorem w64r (n : Nat) (h : n ≤ 2000000) : wrap64 (((n + 1 : Nat) : Int) - 1 - 1) = (n : Int) - 1 := by rw [w64 (by omega) (by omega)]; omega
theorem w64l {n : Nat} (h0 : 0 < n) (h : n ≤ 2000000) : wrap64 ((n : Int) - 1) = ((n - 1 : Nat) : Int) := by rw [w64 (by omega) (by omega)]; omega
theorem w64a (a b : Nat) (h : a + b ≤ 2000000) : wrap64 ((a : Int) + (b : Int)) = ((a + b : Nat) : Int) := by rw [w64 (by omega) (by omega)]; omega
theorem pred_succ (n : Nat) : (((n + 1 : Nat) : Int) - 1) = (n : Int) := by omega
theorem small_lt {n : Nat} (h : n ≤ 2000000) : n < 35184372088832 := by omega
theorem small_lt' {n : Nat} (h : n ≤ 2000000) : n < 140737488355328 := by omega
theorem u64_mod (x : Int) : IntKind.u64.wrap x = x % 18446744073709551616 := by simp [IntKind.wrap, IntKind.bits, IntKind.signed]
theorem u64_eq {x : Int} (h1 : 0 ≤ x) (h2 : x < 18446744073709551616) : IntKind.u64.wrap x = x := by rw [u64_mod]; exact Int.emod_eq_of_lt h1 h2
theorem u32_eq {x : Int} (h1 : 0 ≤ x) (h2 : x < 4294967296) : IntKind.u32.wrap x = x := by rw [IntKind.wrap_u32]; exact Int.emod_eq_of_lt h1 h2
theorem or64 {x y : Int} (hx : 0 ≤ x) (hx1 : x < 4294967296) (hy : 0 ≤ y) (hy1 : y < 4294967296) : Go.bits .or .u64 (x * 4294967296) y = x * 4294967296 + y := by
  refine bits_join .u64 64 (by decide) (fun n h0 h1 => ?_) 32 (x * 4294967296) y (by omega) ?_ ?_ hy (by simpa using hy1) ?_
  · rw [u64_mod]; exact Int.emod_eq_of_lt h0 (by simpa using h1)
  · have : (2 : Int) ^ 32 = 4294967296 := by decide
    rw [this]; omega
  · have : (2 : Int) ^ 64 = 18446744073709551616 := by decide
    rw [this]; omega
  · have : (2 : Int) ^ 64 = 18446744073709551616 := by decide
    rw [this]; omega
theorem and64 {x : Int} (hx : 0 ≤ x) (hx1 : x < 18446744073709551616) : Go.bits .and .u64 x 4294967295 = x % 4294967296 := by
  have h := bits_mask .u64 64 (by decide) (fun n h0 h1 => by rw [u64_mod]; exact Int.emod_eq_of_lt h0 (by simpa using h1)) 32 (by decide) x hx (by simpa using hx1)
  have e : (2 : Int) ^ 32 = 4294967296 := by decide
  rw [e] at h
  exact h
/-- 'or' of what has no binary digit below 2^i, and of what is less than 2^i. -/
theorem or32 {x y : Int} (i : Nat) (hx : 0 ≤ x) (hx1 : x < 4294967296) (hm : x % 2 ^ i = 0) (hy : 0 ≤ y) (hy1 : y < 2 ^ i) (hy2 : y < 4294967296) : Go.bits .or .u32 x y = x + y := by
  have e : (2 : Int) ^ 32 = 4294967296 := by decide
  exact bits_join .u32 32 (by decide) (fun n h0 h1 => by rw [IntKind.wrap_u32]; exact Int.emod_eq_of_lt h0 (by rw [e] at h1; exact h1)) i x y hx hm (by rw [e]; exact hx1) hy hy1 (by rw [e]; exact hy2)
theorem or32_zero {y : Int} (hy : 0 ≤ y) (hy1 : y < 4294967296) : Go.bits .or .u32 0 y = y := by
  have := or32 (x := 0) (y := y) 32 (by omega) (by omega) (by simp) hy (by simpa using hy1) hy1
  omega
/-! ### rounds -/
theorem ev_some {α : Type} (r : α) : Ev (fun _ : Nat => some r) r := Ev.now r
theorem ev_of_eq {α : Type} {g : Nat → Option α} {r : α} (h : ∀ k, g k = some r) : Ev g r := ⟨0, fun k _ => h k⟩
end Go.Proofs.Ytceglknbonfdeaa.PNat
