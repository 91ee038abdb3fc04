/- What the small functions on digits tell: trim, form, compare, same, cut, at, add, sub; and the canonical list of a number. No program. -/
import Derived.Test.YtceglknbonfdeaaDA
import Derived.Test.YtceglknbonfdeaaN1
namespace Go.Proofs.Ytceglknbonfdeaa.PNat
open Go.RowKit Go.Proofs.YtceglknbonfdeaaW.PrintWords Go.Proofs.YtceglknbonfdeaaW.PrintLast Go.Proofs.YtceglknbonfdeaaW.PrintMore
set_option linter.unusedVariables false

/-! ### the list of a number -/
def numF : Nat → Int → List Int
  | 0, _ => []
  | k + 1, v => if v ≤ 0 then [] else (v % 4294967296) :: numF k (v / 4294967296)
def num (v : Int) : List Int := numF v.toNat v
theorem numF_spec (k : Nat) : ∀ v : Int, 0 ≤ v → v.toNat ≤ k → Canon (numF k v) ∧ val (numF k v) = v := by
  induction k with
  | zero => intro v h0 h1; obtain rfl : v = 0 := by omega
            exact ⟨canon_nil, rfl⟩
  | succ k ih =>
    intro v h0 h1
    simp only [numF]
    by_cases h : v ≤ 0
    · rw [if_pos h]
      exact ⟨canon_nil, by rw [val_nil]; omega⟩
    · rw [if_neg h]
      obtain ⟨hc, hv⟩ := ih (v / 4294967296) (by omega) (by omega)
      refine ⟨⟨dig_cons.2 ⟨by omega, hc.1⟩, .inr ?_⟩, by rw [val_cons, hv]; omega⟩
      by_cases e : numF k (v / 4294967296) = []
      · rw [e] at hv ⊢
        rw [val_nil] at hv
        show dg [v % 4294967296] 0 ≠ 0
        rw [dg_cons_zero]
        omega
      · have hp := List.length_pos_iff.2 e
        have hl := hc.last hp
        rw [List.length_cons, show (numF k (v / 4294967296)).length + 1 - 1 = ((numF k (v / 4294967296)).length - 1) + 1 by omega, dg_cons_succ]
        omega
theorem num_canon {v : Int} (h : 0 ≤ v) : Canon (num v) := (numF_spec v.toNat v h (Nat.le_refl _)).1
theorem num_val {v : Int} (h : 0 ≤ v) : val (num v) = v := (numF_spec v.toNat v h (Nat.le_refl _)).2
theorem num_of {l : List Int} (h : Canon l) : num (val l) = l := (num_canon (val_nonneg h.1)).inj h (num_val (val_nonneg h.1))
theorem num_eq {l : List Int} {v : Int} (h : Canon l) (hv : val l = v) : num v = l := by rw [← hv]; exact num_of h
theorem tr_num {l : List Int} {v : Int} (h : Dig l) (hv : val l = v) : tr l = num v := tr_eq h (num_canon (by rw [← hv]; exact val_nonneg h)) (by rw [num_val (by rw [← hv]; exact val_nonneg h), hv])
theorem num_zero : num 0 = [] := rfl
theorem num_len {v : Int} (h : 0 ≤ v) {n : Nat} (hv : v < pw n) : (num v).length ≤ n := (num_canon h).len_le (by rw [num_val h]; exact hv)
/-! ### rounds -/
theorem ev_now {α : Type} {g : Nat → Option α} {r : α} (h : ∀ k, g (k + 1) = some r) : Ev g r := Ev.step (f := fun _ => some r) h (ev_some r)
theorem ev_eq {α : Type} {g f : Nat → Option α} {r : α} (h : ∀ k, g k = f k) (k : Ev f r) : Ev g r := Ev.congr h k
theorem ev_then {α β : Type} {g : Nat → Option α} {F : α → β} {a : α} (h : Ev g a) : Ev (fun n => (g n).bind fun x => some (F x)) (F a) := Ev.bind h (ev_some _)

/-! ### trim -/
theorem trim_ev (x : List Int) (h : x.length ≤ 1000000) : Ev (fun k => nat_trim.l0 k x) (tr x) := by
  generalize hn : x.length = n
  induction n generalizing x with
  | zero =>
    obtain rfl := List.eq_nil_of_length_eq_zero hn
    exact ev_now fun k => by simp only [nat_trim.l0]; rw [if_neg (by simp)]; rfl
  | succ n ih =>
    obtain ⟨y, d, rfl⟩ : ∃ y d, x = y ++ [d] := by
      rcases List.eq_nil_or_concat x with h0 | ⟨y, d, h0⟩
      · rw [h0] at hn; cases hn
      · exact ⟨y, d, by rw [h0, List.concat_eq_append]⟩
    have hy : y.length = n := by simpa using hn
    have hl : (y ++ [d]).length = y.length + 1 := by simp
    have er : rd (y ++ [d]) (y.length : Int) = d := by rw [rd_nat, dg_append_right (Nat.le_refl _), Nat.sub_self, dg_cons_zero]
    by_cases hd : d = 0
    · subst hd
      rw [tr_snoc_zero]
      refine Ev.step (f := fun k => nat_trim.l0 k y) (fun k => ?_) (ih y (by omega) hy)
      simp only [nat_trim.l0]
      rw [hl, w64q _ (by omega), if_pos (by omega), if_pos (by omega), if_pos (by omega), er, if_pos rfl, if_pos (by omega), Int.toNat_natCast, List.take_left]
    · rw [tr_snoc y hd]
      refine ev_now fun k => ?_
      simp only [nat_trim.l0]
      rw [hl, w64q _ (by omega), if_pos (by omega), if_pos (by omega), if_pos (by omega), er, if_neg hd]
theorem trim_f (x : List Int) (h : x.length ≤ 1000000) : Ev (fun k => nat_trim.f k x) (tr x) := trim_ev x h

/-! ### the form of a list -/
def fE (x : List Int) : Int := if 512 < x.length then 3 else if 0 < x.length ∧ dg x (x.length - 1) = 0 then 5 else 0
theorem fE_zero {x : List Int} (hd : Dig x) : fE x = 0 ↔ x.length ≤ 512 ∧ Canon x := by
  unfold fE
  constructor
  · intro h
    by_cases h1 : 512 < x.length
    · rw [if_pos h1] at h; omega
    · rw [if_neg h1] at h
      by_cases h2 : 0 < x.length ∧ dg x (x.length - 1) = 0
      · rw [if_pos h2] at h; omega
      · refine ⟨by omega, hd, ?_⟩
        rcases Nat.eq_zero_or_pos x.length with h0 | h0
        · exact .inl (List.eq_nil_of_length_eq_zero h0)
        · exact .inr (fun e => h2 ⟨h0, e⟩)
  · rintro ⟨h1, h2⟩
    rw [if_neg (by omega), if_neg]
    rintro ⟨h3, h4⟩
    have := h2.last h3
    omega
def fE2 (x y : List Int) : Int := if fE x = 0 then fE y else fE x
theorem form_round (l : List (List Int)) (n i : Nat) (hl : l.length = n) (hn : n ≤ 1000) (hi : i < n) (hx : (l.getD i []).length ≤ 1000000) (k : Nat) :
    nat_form.l0 (k + 1) l (n : Int) (i : Int) = if fE (l.getD i []) = 0 then nat_form.l0 k l (n : Int) ((i + 1 : Nat) : Int) else some (fE (l.getD i [])) := by
  have er : rd_L1 l (i : Int) = l.getD i [] := by unfold rd_L1; rw [Int.toNat_natCast]
  simp only [nat_form.l0]
  rw [if_pos (by omega), if_pos (by omega), if_pos (by omega), er, w64s i (by omega)]
  generalize l.getD i [] = x at hx ⊢
  by_cases h1 : 512 < x.length
  · have hf : fE x = 3 := if_pos h1
    rw [hf, if_pos (by omega), if_neg (by decide)]
  · rw [if_neg (by omega)]
    by_cases h2 : 0 < x.length
    · rw [if_pos (by omega), w64l h2 (by omega), if_pos (by omega), if_pos (by omega), rd_nat]
      by_cases h3 : dg x (x.length - 1) = 0
      · have hf : fE x = 5 := (if_neg h1).trans (if_pos ⟨h2, h3⟩)
        rw [hf, if_pos h3, if_neg (by decide)]
      · have hf : fE x = 0 := (if_neg h1).trans (if_neg (fun h => h3 h.2))
        rw [hf, if_neg h3, if_pos rfl]
    · have hf : fE x = 0 := (if_neg h1).trans (if_neg (fun h => h2 h.1))
      rw [hf, if_neg (by omega), if_pos rfl]
theorem form_end (l : List (List Int)) (n : Nat) (k : Nat) : nat_form.l0 (k + 1) l (n : Int) (n : Int) = some 0 := by
  simp only [nat_form.l0]
  rw [if_neg (by omega)]
theorem form1 (x : List Int) (hx : x.length ≤ 1000000) : Ev (fun k => nat_form.f k [x]) (fE x) := by
  refine Ev.step (f := fun k => if fE x = 0 then nat_form.l0 k [x] 1 1 else some (fE x)) (fun k => form_round [x] 1 0 rfl (by decide) (by decide) hx k) ?_
  by_cases h : fE x = 0
  · refine ev_eq (f := fun k => nat_form.l0 k [x] 1 1) (fun k => if_pos h) ?_
    rw [h]
    exact ev_now fun k => form_end [x] 1 k
  · exact ev_eq (f := fun k => some (fE x)) (fun k => if_neg h) (ev_some _)
theorem form2 (x y : List Int) (hx : x.length ≤ 1000000) (hy : y.length ≤ 1000000) : Ev (fun k => nat_form.f k [x, y]) (fE2 x y) := by
  refine Ev.step (f := fun k => if fE x = 0 then nat_form.l0 k [x, y] 2 1 else some (fE x)) (fun k => form_round [x, y] 2 0 rfl (by decide) (by decide) hx k) ?_
  unfold fE2
  by_cases h : fE x = 0
  · rw [if_pos h]
    refine ev_eq (f := fun k => nat_form.l0 k [x, y] 2 1) (fun k => if_pos h) ?_
    refine Ev.step (f := fun k => if fE y = 0 then nat_form.l0 k [x, y] 2 2 else some (fE y)) (fun k => form_round [x, y] 2 1 rfl (by decide) (by decide) hy k) ?_
    by_cases h2 : fE y = 0
    · refine ev_eq (f := fun k => nat_form.l0 k [x, y] 2 2) (fun k => if_pos h2) ?_
      rw [h2]
      exact ev_now fun k => form_end [x, y] 2 k
    · exact ev_eq (f := fun k => some (fE y)) (fun k => if_neg h2) (ev_some _)
  · rw [if_neg h]
    exact ev_eq (f := fun k => some (fE x)) (fun k => if_neg h) (ev_some _)

/-! ### order -/
def cmpI (a b : Int) : Int := if a < b then -1 else if a > b then 1 else 0
theorem cmpI_lt {a b : Int} (h : a < b) : cmpI a b = -1 := if_pos h
theorem cmpI_gt {a b : Int} (h : b < a) : cmpI a b = 1 := by unfold cmpI; rw [if_neg (by omega), if_pos h]
theorem cmpI_eq (a : Int) : cmpI a a = 0 := by unfold cmpI; rw [if_neg (by omega), if_neg (by omega)]
theorem cmpI_neg {a b : Int} : cmpI a b < 0 ↔ a < b := by unfold cmpI; split <;> (try split) <;> omega
theorem cmpI_nonneg {a b : Int} : cmpI a b ≥ 0 ↔ b ≤ a := by unfold cmpI; split <;> (try split) <;> omega
theorem digit_lt {a b p d e : Int} (ha : a < p) (hb : 0 ≤ b) (hp : 0 ≤ p) (h : d < e) : a + p * d < b + p * e := by
  have h1 : p * (d + 1) ≤ p * e := Int.mul_le_mul_of_nonneg_left (by omega) hp
  have h2 : p * (d + 1) = p * d + p := by grind
  omega
theorem cmp_step {x y : List Int} (hx : Dig x) (hy : Dig y) (n : Nat) : cmpI (lo x (n + 1)) (lo y (n + 1)) = if dg x n = dg y n then cmpI (lo x n) (lo y n) else if dg x n < dg y n then -1 else 1 := by
  rw [lo_succ, lo_succ]
  have h1 := lo_lt hx n
  have h2 := lo_lt hy n
  have h3 := lo_nonneg hx n
  have h4 := lo_nonneg hy n
  have h5 := pw_pos n
  by_cases e : dg x n = dg y n
  · rw [if_pos e, e]
    unfold cmpI
    by_cases c1 : lo x n < lo y n
    · rw [if_pos c1, if_pos (by omega)]
    · rw [if_neg c1, if_neg (by omega)]
      by_cases c2 : lo x n > lo y n
      · rw [if_pos c2, if_pos (by omega)]
      · rw [if_neg c2, if_neg (by omega)]
  · rw [if_neg e]
    by_cases c : dg x n < dg y n
    · rw [if_pos c]
      exact cmpI_lt (digit_lt h1 h4 (by omega) c)
    · rw [if_neg c]
      exact cmpI_gt (digit_lt h2 h3 (by omega) (by omega))
theorem compare_loop {x y : List Int} (hx : Dig x) (hy : Dig y) (hl : x.length = y.length) (hs : x.length ≤ 1000000) (n : Nat) (hn : n ≤ x.length) : Ev (fun k => nat_compare.l0 k x y ((n : Int) - 1)) (cmpI (lo x n) (lo y n)) := by
  induction n with
  | zero =>
    rw [lo_zero, lo_zero, cmpI_eq]
    exact ev_now fun k => by simp only [nat_compare.l0]; rw [if_neg (by omega)]
  | succ n ih =>
    rw [cmp_step hx hy n]
    refine Ev.step (f := fun k => if dg x n = dg y n then nat_compare.l0 k x y ((n : Int) - 1) else if dg x n < dg y n then some (-1) else some 1) (fun k => ?_) ?_
    · simp only [nat_compare.l0]
      rw [w64r n (by omega), pred_succ, if_pos (by omega), if_pos (by omega), if_pos (by omega), if_pos (by omega), rd_nat, rd_nat]
    · by_cases c : dg x n = dg y n
      · rw [if_pos c]
        exact ev_eq (f := fun k => nat_compare.l0 k x y ((n : Int) - 1)) (fun k => if_pos c) (ih (by omega))
      · refine ev_eq (f := fun k => if dg x n < dg y n then some (-1) else some 1) (fun k => if_neg c) ?_
        rw [if_neg c]
        by_cases c2 : dg x n < dg y n
        · exact ev_eq (f := fun k => some (if dg x n < dg y n then -1 else 1)) (fun k => by rw [if_pos c2, if_pos c2]) (ev_some _)
        · exact ev_eq (f := fun k => some (if dg x n < dg y n then -1 else 1)) (fun k => by rw [if_neg c2, if_neg c2]) (ev_some _)
theorem len_lt {x y : List Int} (hx : Dig x) (hy : Canon y) (h : x.length < y.length) : val x < val y := by
  have h1 := val_lt hx
  have h2 := hy.ge (by omega)
  have h3 : pw x.length ≤ pw (y.length - 1) := pw_mono (by omega)
  omega
theorem compare_f {x y : List Int} (hx : Canon x) (hy : Canon y) (hs : x.length ≤ 1000000) : Ev (fun k => nat_compare.f k x y) (cmpI (val x) (val y)) := by
  unfold nat_compare.f
  by_cases h1 : x.length < y.length
  · rw [cmpI_lt (len_lt hx.1 hy h1)]
    exact ev_eq (f := fun k => some (-1)) (fun k => if_pos (by omega)) (ev_some _)
  · by_cases h2 : y.length < x.length
    · rw [cmpI_gt (len_lt hy.1 hx h2)]
      exact ev_eq (f := fun k => some 1) (fun k => by rw [if_neg (by omega), if_pos (by omega)]) (ev_some _)
    · have hl : x.length = y.length := by omega
      have h := compare_loop hx.1 hy.1 hl hs x.length (Nat.le_refl _)
      rw [lo_all (Nat.le_refl _), lo_all (by omega)] at h
      exact ev_eq (fun k => by rw [if_neg (by omega), if_neg (by omega), w64p _ (by omega)]) h

/-! ### the same digits -/
theorem same_loop {x y : List Int} (hl : x.length = y.length) (hs : x.length ≤ 1000000) (d i : Nat) (hd : x.length = i + d) : Ev (fun k => fluxionlaw01_same.l0 k x y (i : Int)) (decide (x.drop i = y.drop i)) := by
  induction d generalizing i with
  | zero =>
    rw [List.drop_eq_nil_of_le (by omega), List.drop_eq_nil_of_le (by omega)]
    exact ev_now fun k => by simp only [fluxionlaw01_same.l0]; rw [if_neg (by omega)]; rfl
  | succ d ih =>
    have hx : i < x.length := by omega
    have hy : i < y.length := by omega
    refine Ev.step (f := fun k => if dg x i = dg y i then fluxionlaw01_same.l0 k x y ((i + 1 : Nat) : Int) else some false) (fun k => ?_) ?_
    · simp only [fluxionlaw01_same.l0]
      rw [w64s i (by omega), if_pos (by omega), if_pos (by omega), if_pos (by omega), rd_nat, rd_nat]
    · rw [List.drop_eq_getElem_cons hx, List.drop_eq_getElem_cons hy, ← dg_lt hx, ← dg_lt hy]
      by_cases c : dg x i = dg y i
      · refine ev_eq (f := fun k => fluxionlaw01_same.l0 k x y ((i + 1 : Nat) : Int)) (fun k => if_pos c) ?_
        rw [c]
        simp only [List.cons.injEq, true_and]
        exact ih (i + 1) (by omega)
      · refine ev_eq (f := fun k => some false) (fun k => if_neg c) ?_
        rw [decide_eq_false (fun h => c (List.cons.inj h).1)]
        exact ev_some _
theorem same_f (x y : List Int) (hs : x.length ≤ 1000000) : Ev (fun k => fluxionlaw01_same.f k x y) (decide (x = y)) := by
  unfold fluxionlaw01_same.f
  by_cases h : x.length = y.length
  · have := same_loop h hs x.length 0 (by omega)
    rw [List.drop_zero, List.drop_zero] at this
    exact ev_eq (fun k => if_pos (by omega)) this
  · rw [decide_eq_false (fun e => h (by rw [e]))]
    exact ev_eq (f := fun k => some false) (fun k => if_neg (by omega)) (ev_some _)
theorem same_true {x y : List Int} (h : x = y) (hs : x.length ≤ 1000000) : Ev (fun k => fluxionlaw01_same.f k x y) true := by
  have := same_f x y hs
  rwa [decide_eq_true h] at this

/-! ### cuts and copies -/
theorem cut_eq (l : List Int) (n : Nat) (hn : n ≤ 1000000) : fluxionlaw01_cut.f l (n : Int) = some (l.take n) := by
  unfold fluxionlaw01_cut.f
  simp only [Option.bind_some, List.nil_append, List.length_nil, Nat.zero_add]
  have e : mn (l.length : Int) (n : Int) = ((min l.length n : Nat) : Int) := by unfold mn; split <;> omega
  have h1 := Nat.min_le_left l.length n
  have h2 := Nat.min_le_right l.length n
  have e2 : l.take (min l.length n) = l.take n := by
    rcases Nat.le_total l.length n with h | h
    · rw [Nat.min_eq_left h, List.take_of_length_le (Nat.le_refl _), List.take_of_length_le h]
    · rw [Nat.min_eq_right h]
  rw [e, if_pos (by omega), if_pos (by omega), Int.toNat_natCast, e2, if_pos (by rw [List.length_take]; omega)]
theorem clone_eq (l : List Int) (h : l.length ≤ 1000000) : slices_Clone_uint32_uint32.f l = some l := by
  unfold slices_Clone_uint32_uint32.f
  simp only [Option.bind_some, List.nil_append, List.length_nil, Nat.zero_add]
  rw [if_pos (by omega)]
theorem at_eq {l : List Int} (h : Dig l) (i : Nat) : nat_at.f l (i : Int) = some (dg l i) := by
  unfold nat_at.f
  by_cases c : i < l.length
  · have := dg_dig h i
    rw [if_pos (by omega), if_pos (by omega), rd_nat, u64_eq (by omega) (by omega)]
  · rw [if_neg (by omega), dg_of_ge (by omega)]

/-! ### sums -/
theorem add_loop {x y : List Int} (hx : Dig x) (hy : Dig y) (m : Nat) (hm : m ≤ 900000) (d : Nat) : ∀ (i : Nat) (out : List Int) (c : Int), m = i + d → out.length = i → Dig out → 0 ≤ c → c ≤ 1 → val out + pw i * c = lo x i + lo y i →
    Ev (fun k => nat_add.l0 k x y out c (m : Int) (i : Int)) (num (lo x m + lo y m)) := by
  induction d with
  | zero =>
    intro i out c hi hl hd hc0 hc1 hv
    obtain rfl : m = i := by omega
    refine Ev.step (f := fun k => (nat_trim.f k (out ++ [c])).bind fun t => some t) (fun k => ?_) ?_
    · simp only [nat_add.l0]
      rw [if_neg (by omega), if_pos (small_lt (by omega)), show c % 4294967296 = c from by omega]
    · have hd2 : Dig (out ++ [c]) := dig_append.2 ⟨hd, dig_cons.2 ⟨by omega, dig_nil⟩⟩
      rw [← tr_num hd2 (by rw [val_snoc, hl, hv])]
      exact Ev.bind (trim_f _ (by simp; omega)) (ev_some _)
  | succ d ih =>
    intro i out c hi hl hd hc0 hc1 hv
    have h1 := dg_dig hx i
    have h2 := dg_dig hy i
    refine Ev.step (f := fun k => nat_add.l0 k x y (out ++ [(c + (dg x i + dg y i)) % 4294967296]) ((c + (dg x i + dg y i)) / 4294967296) (m : Int) ((i + 1 : Nat) : Int)) (fun k => ?_) ?_
    · simp only [nat_add.l0]
      rw [if_pos (by omega), at_eq hx, Option.bind_some, at_eq hy, Option.bind_some, if_pos (small_lt (by omega)), w64s i (by omega), u64_eq (x := dg x i + dg y i) (by omega) (by omega), u64_eq (x := c + (dg x i + dg y i)) (by omega) (by omega)]
    · generalize hs : c + (dg x i + dg y i) = s at *
      refine ih (i + 1) _ _ (by omega) (by simp [hl]) (dig_append.2 ⟨hd, dig_cons.2 ⟨by omega, dig_nil⟩⟩) (by omega) (by omega) ?_
      rw [val_snoc, hl, pw_succ, lo_succ, lo_succ]
      have hq : s = s % 4294967296 + 4294967296 * (s / 4294967296) := by omega
      have : pw i * s = pw i * (s % 4294967296) + 4294967296 * pw i * (s / 4294967296) := by
        conv => lhs; rw [hq]
        grind
      grind
theorem mx_nat (a b : Nat) : mx (a : Int) (b : Int) = ((max a b : Nat) : Int) := by unfold mx; split <;> omega
theorem add_f {x y : List Int} (hx : Dig x) (hy : Dig y) (hsx : x.length ≤ 100000) (hsy : y.length ≤ 100000) : Ev (fun k => nat_add.f k x y) (num (val x + val y)) := by
  have h1 := Nat.le_max_left x.length y.length
  have h2 := Nat.le_max_right x.length y.length
  have h3 : max x.length y.length ≤ 100000 := Nat.max_le.2 ⟨hsx, hsy⟩
  have h := add_loop hx hy (max x.length y.length) (by omega) (max x.length y.length) 0 [] 0 (by omega) rfl dig_nil (by omega) (by omega) (by simp [lo_zero, val])
  rw [lo_all h1, lo_all h2] at h
  refine ev_eq (fun k => ?_) h
  unfold nat_add.f
  rw [mx_nat, w64s _ (by omega), if_pos (by omega), if_pos (by omega)]
  rfl

/-! ### differences -/
theorem mod64_neg {s : Int} (h0 : -4294967296 ≤ s) (h1 : s < 0) : s % 18446744073709551616 = s + 18446744073709551616 := by
  rw [← Int.add_emod_right]
  exact Int.emod_eq_of_lt (by omega) (by omega)
theorem borrow {s : Int} (h0 : -4294967296 ≤ s) (h1 : s < 4294967296) : 0 ≤ s % 18446744073709551616 / 9223372036854775808 ∧ s % 18446744073709551616 / 9223372036854775808 ≤ 1 ∧ s % 18446744073709551616 % 4294967296 = s + 4294967296 * (s % 18446744073709551616 / 9223372036854775808) := by
  rcases Int.lt_or_le s 0 with h | h
  · rw [mod64_neg h0 h]
    have h2 : (s + 18446744073709551616) / 9223372036854775808 = 1 := by
      rw [show s + 18446744073709551616 = (s + 9223372036854775808) + 9223372036854775808 by omega, Int.add_ediv_of_dvd_right (Int.dvd_refl _), Int.ediv_self (by decide), Int.ediv_eq_zero_of_lt (by omega) (by omega)]
      rfl
    rw [h2]
    refine ⟨by decide, by decide, ?_⟩
    rw [show s + 18446744073709551616 = (s + 4294967296) + 4294967296 * 4294967295 by omega, Int.add_mul_emod_self_left]
    rcases Int.lt_or_le (s + 4294967296) 0 with h3 | h3
    · omega
    · rw [Int.emod_eq_of_lt h3 (by omega)]
      omega
  · rw [Int.emod_eq_of_lt h (by omega), Int.ediv_eq_zero_of_lt h (by omega), Int.emod_eq_of_lt h h1]
    exact ⟨by decide, by decide, by omega⟩
theorem borrow64 {a b c : Int} (ha : 0 ≤ a ∧ a < 4294967296) (hb : 0 ≤ b ∧ b < 4294967296) (hc0 : 0 ≤ c) (hc1 : c ≤ 1) :
    ∃ r q, IntKind.u64.wrap (IntKind.u64.wrap (a - b) - c) = r ∧ r / 9223372036854775808 = q ∧ 0 ≤ q ∧ q ≤ 1 ∧ r % 4294967296 = a - b - c + 4294967296 * q := by
  have h := borrow (s := a - b - c) (by omega) (by omega)
  refine ⟨_, _, rfl, rfl, ?_⟩
  rw [u64_mod, u64_mod, Int.emod_sub_emod]
  exact h
theorem sub_loop {x y : List Int} (hx : Dig x) (hy : Dig y) (hs : x.length ≤ 1000000) (hyx : y.length ≤ x.length) (hle : val y ≤ val x) (d : Nat) : ∀ (i : Nat) (out : List Int) (c : Int), x.length = i + d → out.length = i → Dig out → 0 ≤ c → c ≤ 1 → val out = lo x i - lo y i + pw i * c →
    Ev (fun k => nat_sub.l0 k x y out c (x.length : Int) (i : Int)) (num (val x - val y)) := by
  induction d with
  | zero =>
    intro i out c hi hl hd hc0 hc1 hv
    rw [lo_all (by omega), lo_all (by omega)] at hv
    have hlt := val_lt hd
    rw [hl] at hlt
    obtain rfl : c = 0 := by
      rcases Int.lt_or_le 0 c with h | h
      · obtain rfl : c = 1 := by omega
        omega
      · omega
    refine Ev.step (f := fun k => (nat_trim.f k out).bind fun t => some t) (fun k => ?_) ?_
    · simp only [nat_sub.l0]
      rw [if_neg (by omega)]
    · rw [← tr_num hd (by rw [hv]; omega)]
      exact Ev.bind (trim_f _ (by omega)) (ev_some _)
  | succ d ih =>
    intro i out c hi hl hd hc0 hc1 hv
    have h1 := dg_dig hx i
    have h2 := dg_dig hy i
    have c1 : (i : Int) < (x.length : Int) := by omega
    have c2 : out.length ≤ 2000000 := by omega
    have c3 : i ≤ 2000000 := by omega
    obtain ⟨r, q, hr, hq, q0, q1, q2⟩ := borrow64 h1 h2 hc0 hc1
    refine Ev.step (f := fun k => nat_sub.l0 k x y (out ++ [r % 4294967296]) q (x.length : Int) ((i + 1 : Nat) : Int)) (fun k => ?_) ?_
    · simp only [nat_sub.l0]
      rw [if_pos c1, at_eq hx, Option.bind_some, at_eq hy, Option.bind_some, if_pos (small_lt c2), w64s i c3, hr, hq]
    · clear hq hr
      refine ih (i + 1) _ _ (by omega) (by simp [hl]) (dig_append.2 ⟨hd, dig_cons.2 ⟨by omega, dig_nil⟩⟩) q0 q1 ?_
      rw [val_snoc, hl, pw_succ, lo_succ, lo_succ, hv, q2]
      grind
theorem sub_f {x y : List Int} (hx : Dig x) (hy : Dig y) (hs : x.length ≤ 1000000) (hyx : y.length ≤ x.length) (hle : val y ≤ val x) : Ev (fun k => nat_sub.f k x y) (num (val x - val y)) := by
  refine ev_eq (fun k => ?_) (sub_loop hx hy hs hyx hle x.length 0 [] 0 (by omega) rfl dig_nil (by omega) (by omega) (by simp [lo_zero, val]))
  unfold nat_sub.f
  rw [if_pos (by omega), if_pos (by omega)]
  rfl
theorem le_len {x y : List Int} (hx : Dig x) (hy : Canon y) (h : val y ≤ val x) : y.length ≤ x.length := by
  rcases Nat.lt_or_ge x.length y.length with h1 | h1
  · have := len_lt hx hy h1; omega
  · exact h1
end Go.Proofs.Ytceglknbonfdeaa.PNat
