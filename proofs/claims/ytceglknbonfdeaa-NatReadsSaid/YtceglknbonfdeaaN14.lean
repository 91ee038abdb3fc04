/- Reading decimal text, both ways. No program. -/
import Derived.Test.YtceglknbonfdeaaN13
namespace Go.Proofs.Ytceglknbonfdeaa.PNat
open Go.RowKit Go.Proofs.YtceglknbonfdeaaW.PrintWords Go.Proofs.YtceglknbonfdeaaW.PrintLast Go.Proofs.YtceglknbonfdeaaW.PrintMore
set_option linter.unusedVariables false

/-- The byte is a digit. -/
def IsD (a : ByteArray) (i : Nat) : Prop := 48 ≤ bt a (i : Int) ∧ bt a (i : Int) ≤ 57
/-- What the first i bytes say. -/
def tv (a : ByteArray) : Nat → Int
  | 0 => 0
  | i + 1 => 10 * tv a i + (bt a (i : Int) - 48)
theorem tv_range {a : ByteArray} (n : Nat) (h : ∀ t, t < n → IsD a t) : 0 ≤ tv a n ∧ tv a n < pw n := by
  induction n with
  | zero => exact ⟨Int.le_refl _, by show (0 : Int) < 1; decide⟩
  | succ n ih =>
    obtain ⟨h1, h2⟩ := ih fun t ht => h t (by omega)
    obtain ⟨h3, h4⟩ := h n (by omega)
    rw [pw_succ]
    show 0 ≤ 10 * tv a n + (bt a (n : Int) - 48) ∧ 10 * tv a n + (bt a (n : Int) - 48) < 4294967296 * pw n
    have := pw_pos n
    omega
theorem num_digit {x : List Int} (cx : Canon x) {d : Int} (h0 : 0 ≤ d) (h1 : d ≤ 9) : Canon (num (10 * val x + d)) ∧ val (num (10 * val x + d)) = 10 * val x + d ∧ (num (10 * val x + d)).length ≤ x.length + 1 := by
  have v0 := val_nonneg cx.1
  have v1 := val_lt cx.1
  have := pw_pos x.length
  exact ⟨num_canon (by omega), num_val (by omega), num_len (by omega) (by rw [pw_succ]; omega)⟩

/-! ### the program -/
theorem parse_next (a : ByteArray) (hs : a.size ≤ 4900) (i : Nat) (hi : i < a.size) (x : List Int) (cx : Canon x) (sx : x.length ≤ i) (r : List Int × Int) (hD : IsD a i)
    (next : Ev (fun k => nat_Parse.l0 k a (num (10 * val x + (bt a (i : Int) - 48))) (a.size : Int) ((i + 1 : Nat) : Int)) r) : Ev (fun k => nat_Parse.l0 k a x (a.size : Int) (i : Int)) r := by
  obtain ⟨h1, h2⟩ := hD
  have hd : 0 ≤ bt a (i : Int) - 48 ∧ bt a (i : Int) - 48 ≤ 9 := by omega
  have hin := parse_l1 a (a.size : Int) i cx (by omega) hd.1 r (ev_eq (fun k => by rw [w64s i (by omega)]) next) x.length 0 x (bt a (i : Int) - 48) (by omega) rfl cx.1 hd.1 (by omega) rfl (by rw [lo_zero, pw_zero]; omega)
  refine ev_succ ?_
  simp only [nat_Parse.l0]
  refine ev_if (by omega) (ev_if (by omega) (ev_if (by omega) (ev_else (by omega) (ev_succ ?_))))
  simp only [nat_Parse.j2]
  refine ev_else (by rw [decide_eq_true_iff]; omega) (ev_eq (fun k => ?_) hin)
  rw [show (bt a (i : Int) - 48) % 256 = bt a (i : Int) - 48 by omega]
  rfl
theorem parse_good (a : ByteArray) (hs : a.size ≤ 4900) (h : ∀ t, t < a.size → IsD a t) (d : Nat) : ∀ i : Nat, a.size = i + d → Ev (fun k => nat_Parse.l0 k a (num (tv a i)) (a.size : Int) (i : Int)) (num (tv a a.size), 0) := by
  induction d with
  | zero =>
    intro i hi
    obtain rfl : i = a.size := by omega
    refine ev_succ ?_
    simp only [nat_Parse.l0]
    exact ev_else (by omega) (ev_some _)
  | succ d ih =>
    intro i hi
    obtain ⟨v0, v1⟩ := tv_range i fun t ht => h t (by omega)
    refine parse_next a hs i (by omega) _ (num_canon v0) (num_len v0 v1) _ (h i (by omega)) ?_
    rw [num_val v0]
    exact ih (i + 1) (by omega)
theorem parse_wrong (a : ByteArray) (hs : a.size ≤ 4900) (d : Nat) : ∀ (i : Nat) (x : List Int), a.size = i + d → Canon x → x.length ≤ i → (∃ t, i ≤ t ∧ t < a.size ∧ ¬ IsD a t) → Ev (fun k => nat_Parse.l0 k a x (a.size : Int) (i : Int)) ([], 5) := by
  induction d with
  | zero => intro i x hi cx sx h; obtain ⟨t, h1, h2, _⟩ := h; omega
  | succ d ih =>
    intro i x hi cx sx h
    by_cases hD : IsD a i
    · obtain ⟨c1, c2, c3⟩ := num_digit cx (d := bt a (i : Int) - 48) (by have := hD.1; omega) (by have := hD.2; omega)
      refine parse_next a hs i (by omega) x cx sx _ hD (ih (i + 1) _ (by omega) c1 (by omega) ?_)
      obtain ⟨t, h1, h2, h3⟩ := h
      have : t ≠ i := fun e => h3 (e ▸ hD)
      exact ⟨t, by omega, h2, h3⟩
    · refine ev_succ ?_
      simp only [nat_Parse.l0]
      refine ev_if (by omega) (ev_if (by omega) (ev_if (by omega) ?_))
      by_cases h48 : bt a (i : Int) < 48
      · refine ev_if h48 (ev_succ ?_)
        simp only [nat_Parse.j2]
        exact ev_if (by decide) (ev_some _)
      · have h57 : bt a (i : Int) > 57 := by
          rcases Int.lt_or_le 57 (bt a (i : Int)) with h | h
          · exact h
          · exact absurd ⟨by omega, h⟩ hD
        refine ev_else h48 (ev_succ ?_)
        simp only [nat_Parse.j2]
        exact ev_if (decide_eq_true h57) (ev_some _)
theorem toList_nil (a : ByteArray) : a.toList = ([] : List UInt8) ↔ a.size = 0 := by
  rw [ByteArray.toList_eq]
  constructor
  · intro h
    show a.data.size = 0
    rw [← Array.length_toList, h]
    rfl
  · intro h
    exact List.eq_nil_of_length_eq_zero (by rw [Array.length_toList]; exact h)
theorem Parse_long (a : ByteArray) (h : 4900 < a.size) : Ev (fun k => nat_Parse.f k a) ([], 3) := by
  unfold nat_Parse.f
  exact ev_if (by omega) (ev_some _)
theorem Parse_empty (a : ByteArray) (h : a.size = 0) : Ev (fun k => nat_Parse.f k a) ([], 5) := by
  unfold nat_Parse.f
  exact ev_else (by omega) (ev_if ((toList_nil a).2 h) (ev_some _))
theorem Parse_nought (a : ByteArray) (hs : a.size ≤ 4900) (h : 1 < a.size) (h0 : bt a 0 = 48) : Ev (fun k => nat_Parse.f k a) ([], 5) := by
  unfold nat_Parse.f
  exact ev_else (by omega) (ev_else (fun e => by have := (toList_nil a).1 e; omega) (ev_if (by omega) (ev_if h0 (ev_if (by omega) (ev_some _)))))
theorem Parse_run (a : ByteArray) (hs : a.size ≤ 4900) (h : 0 < a.size) (h0 : bt a 0 = 48 → a.size = 1) (r : List Int × Int) (hr : Ev (fun k => nat_Parse.l0 k a [] (a.size : Int) 0) r) : Ev (fun k => nat_Parse.f k a) r := by
  have hj : Ev (fun k => nat_Parse.j0 k a) r := by
    refine ev_succ ?_
    simp only [nat_Parse.j0]
    exact hr
  unfold nat_Parse.f
  refine ev_else (by omega) (ev_else (fun e => by have := (toList_nil a).1 e; omega) (ev_if (by omega) ?_))
  by_cases h1 : bt a 0 = 48
  · have := h0 h1
    exact ev_if h1 (ev_else (by omega) hj)
  · exact ev_else h1 hj
theorem Parse_good (a : ByteArray) (hs : a.size ≤ 4900) (h : 0 < a.size) (h0 : bt a 0 = 48 → a.size = 1) (hD : ∀ t, t < a.size → IsD a t) : Ev (fun k => nat_Parse.f k a) (num (tv a a.size), 0) :=
  Parse_run a hs h h0 _ (parse_good a hs hD a.size 0 (by omega))
theorem Parse_wrong (a : ByteArray) (hs : a.size ≤ 4900) (h : 0 < a.size) (h0 : bt a 0 = 48 → a.size = 1) (hD : ∃ t, t < a.size ∧ ¬ IsD a t) : Ev (fun k => nat_Parse.f k a) ([], 5) := by
  obtain ⟨t, h1, h2⟩ := hD
  exact Parse_run a hs h h0 _ (parse_wrong a hs a.size 0 [] (by omega) canon_nil (Nat.le_refl _) ⟨t, by omega, h1, h2⟩)

/-! ### the reference -/
theorem rdigits_loop (a : ByteArray) (hs : a.size ≤ 1000000) (d : Nat) : ∀ i : Nat, a.size = i + d →
    ((∀ t, i ≤ t → t < a.size → IsD a t) → Ev (fun k => fluxionref01_Digits.l0 k a (i : Int)) (decide ((a.size : Int) > 0))) ∧ ((∃ t, i ≤ t ∧ t < a.size ∧ ¬ IsD a t) → Ev (fun k => fluxionref01_Digits.l0 k a (i : Int)) false) := by
  induction d with
  | zero =>
    intro i hi
    refine ⟨fun h => ev_succ ?_, fun h => by obtain ⟨t, h1, h2, _⟩ := h; omega⟩
    simp only [fluxionref01_Digits.l0]
    exact ev_else (by omega) (ev_some _)
  | succ d ih =>
    intro i hi
    obtain ⟨n1, n2⟩ := ih (i + 1) (by omega)
    have go : ∀ b, IsD a i → Ev (fun k => fluxionref01_Digits.l0 k a ((i + 1 : Nat) : Int)) b → Ev (fun k => fluxionref01_Digits.l0 k a (i : Int)) b := fun b hD hn => by
      obtain ⟨h1, h2⟩ := hD
      refine ev_succ ?_
      simp only [fluxionref01_Digits.l0]
      refine ev_if (by omega) (ev_if (by omega) (ev_else (by omega) (ev_else (by omega) (ev_eq (fun k => ?_) hn))))
      rw [w64s i (by omega)]
    refine ⟨fun h => go _ (h i (Nat.le_refl _) (by omega)) (n1 fun t h1 h2 => h t (by omega) h2), fun h => ?_⟩
    by_cases hD : IsD a i
    · refine go _ hD (n2 ?_)
      obtain ⟨t, h1, h2, h3⟩ := h
      have : t ≠ i := fun e => h3 (e ▸ hD)
      exact ⟨t, by omega, h2, h3⟩
    · refine ev_succ ?_
      simp only [fluxionref01_Digits.l0]
      refine ev_if (by omega) (ev_if (by omega) ?_)
      by_cases h48 : bt a (i : Int) < 48
      · exact ev_if h48 (ev_some _)
      · refine ev_else h48 (ev_if ?_ (ev_some _))
        rcases Int.lt_or_le 57 (bt a (i : Int)) with h | h
        · exact h
        · exact absurd ⟨by omega, h⟩ hD
theorem rdecimal (a : ByteArray) (hs : a.size ≤ 4900) (h : ∀ t, t < a.size → IsD a t) (d : Nat) : ∀ i : Nat, a.size = i + d → Ev (fun k => fluxionref01_Decimal.l0 k a (num (tv a i)) (i : Int)) (num (tv a a.size)) := by
  induction d with
  | zero =>
    intro i hi
    obtain rfl : i = a.size := by omega
    refine ev_succ ?_
    simp only [fluxionref01_Decimal.l0]
    exact ev_else (by omega) (ev_some _)
  | succ d ih =>
    intro i hi
    obtain ⟨v0, v1⟩ := tv_range i fun t ht => h t (by omega)
    obtain ⟨h1, h2⟩ := h i (by omega)
    have hl := num_len v0 v1
    have hn := ih (i + 1) (by omega)
    have hin := rdec_l1 a i (num_canon v0) (by omega) (d0 := bt a (i : Int) - 48) (by omega) (num (tv a a.size)) (by
      rw [num_val v0, w64s i (by omega)]
      exact hn) (num (tv a i)).length 0 (num (tv a i)) (bt a (i : Int) - 48) (by omega) rfl (num_canon v0).1 (by omega) (by omega) rfl (by rw [lo_zero, pw_zero]; omega)
    refine ev_succ ?_
    simp only [fluxionref01_Decimal.l0]
    refine ev_if (by omega) (ev_if (by omega) (ev_eq (fun k => ?_) hin))
    rw [show (bt a (i : Int) - 48) % 256 = bt a (i : Int) - 48 by omega]
    rfl
/-- Both ways to read answer the same: a number and no error, or no number. -/
theorem parse_both (a : ByteArray) (hs : a.size ≤ 1000000) : ∃ r : List Int × Int, Ev (fun k => nat_Parse.f k a) r ∧ Ev (fun k => fluxionref01_Parse.f k a) r ∧ (r.2 = 0 ∧ r.1.length ≤ 4900 ∨ r.2 ≠ 0 ∧ r.1 = []) := by
  rcases Nat.lt_or_ge 4900 a.size with hl | hl
  · refine ⟨_, Parse_long a hl, ?_, .inr ⟨by decide, rfl⟩⟩
    unfold fluxionref01_Parse.f
    exact ev_if (by omega) (ev_some _)
  · obtain ⟨g1, g2⟩ := rdigits_loop a (by omega) a.size 0 (by omega)
    rcases Nat.eq_zero_or_pos a.size with h0 | h0
    · refine ⟨_, Parse_empty a h0, ?_, .inr ⟨(by decide : (5 : Int) ≠ 0), rfl⟩⟩
      have hd := g1 fun t h1 h2 => by omega
      rw [decide_eq_false (by omega)] at hd
      unfold fluxionref01_Parse.f fluxionref01_Digits.f
      exact ev_else (by omega) (Ev.bind hd (ev_else (by decide) (ev_some _)))
    · by_cases hD : ∀ t, t < a.size → IsD a t
      · have hd := g1 fun t _ h2 => hD t h2
        rw [decide_eq_true (by omega)] at hd
        by_cases h1 : bt a 0 = 48 ∧ 1 < a.size
        · refine ⟨_, Parse_nought a hl h1.2 h1.1, ?_, .inr ⟨(by decide : (5 : Int) ≠ 0), rfl⟩⟩
          unfold fluxionref01_Parse.f fluxionref01_Digits.f
          exact ev_else (by omega) (Ev.bind hd (ev_if rfl (ev_if (by omega) (ev_if h1.1 (ev_if (by omega) (ev_some _))))))
        · have h2 : bt a 0 = 48 → a.size = 1 := fun e => by
            rcases Nat.lt_or_ge 1 a.size with h | h
            · exact absurd ⟨e, h⟩ h1
            · omega
          have hdec : Ev (fun k => fluxionref01_Decimal.f k a) (num (tv a a.size)) := rdecimal a hl hD a.size 0 (by omega)
          obtain ⟨v0, v1⟩ := tv_range a.size hD
          refine ⟨_, Parse_good a hl h0 h2 hD, ?_, .inl ⟨rfl, by have := num_len v0 v1; show (num (tv a a.size)).length ≤ 4900; omega⟩⟩
          unfold fluxionref01_Parse.f fluxionref01_Digits.f
          refine ev_else (by omega) (Ev.bind hd (ev_if rfl (ev_if (by omega) ?_)))
          by_cases h3 : bt a 0 = 48
          · have := h2 h3
            exact ev_if h3 (ev_else (by omega) (Ev.bind hdec (ev_some _)))
          · exact ev_else h3 (Ev.bind hdec (ev_some _))
      · have hW : ∃ t, t < a.size ∧ ¬ IsD a t := by
          false_or_by_contra
          rename_i hc
          exact hD fun t ht => by
            false_or_by_contra
            rename_i hc2
            exact hc ⟨t, ht, hc2⟩
        obtain ⟨t, w1, w2⟩ := hW
        have hd := g2 ⟨t, by omega, w1, w2⟩
        have hr : Ev (fun k => fluxionref01_Parse.f k a) ([], 5) := by
          unfold fluxionref01_Parse.f fluxionref01_Digits.f
          exact ev_else (by omega) (Ev.bind hd (ev_else (by decide) (ev_some _)))
        refine ⟨_, ?_, hr, .inr ⟨(by decide : (5 : Int) ≠ 0), rfl⟩⟩
        by_cases h1 : bt a 0 = 48 ∧ 1 < a.size
        · exact Parse_nought a hl h1.2 h1.1
        · refine Parse_wrong a hl h0 (fun e => ?_) ⟨t, w1, w2⟩
          rcases Nat.lt_or_ge 1 a.size with h | h
          · exact absurd ⟨e, h⟩ h1
          · omega
end Go.Proofs.Ytceglknbonfdeaa.PNat
