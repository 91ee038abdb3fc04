/- The exported functions of the package of numbers; the laws' own helpers. No program. -/
import Derived.Test.YtceglknbonfdeaaN3
namespace Go.Proofs.Ytceglknbonfdeaa.PNat
open Go.RowKit Go.Proofs.YtceglknbonfdeaaW.PrintWords Go.Proofs.YtceglknbonfdeaaW.PrintLast Go.Proofs.YtceglknbonfdeaaW.PrintMore
set_option linter.unusedVariables false

theorem ev_if {α : Type} {c : Prop} [Decidable c] {g f : Nat → Option α} {r : α} (h : c) (k : Ev g r) : Ev (fun n => if c then g n else f n) r := ev_eq (fun _ => if_pos h) k
theorem ev_else {α : Type} {c : Prop} [Decidable c] {g f : Nat → Option α} {r : α} (h : ¬ c) (k : Ev f r) : Ev (fun n => if c then g n else f n) r := ev_eq (fun _ => if_neg h) k
theorem ev_val {α β : Type} {o : Option α} {f : Nat → α → Option β} {a : α} {r : β} (h : o = some a) (k : Ev (fun n => f n a) r) : Ev (fun n => o.bind (f n)) r := Ev.bind (ev_of_eq fun _ => h) k
theorem ev_succ {α : Type} {g : Nat → Option α} {r : α} (h : Ev (fun k => g (k + 1)) r) : Ev g r := Ev.step (fun _ => rfl) h
theorem ev_out {α : Type} {g : Nat → Option α} {r : α} (h : Ev g r) : ∃ k, g k = some r := by obtain ⟨n, hn⟩ := h; exact ⟨n, hn n (Nat.le_refl _)⟩
theorem dig_wf {l : List Int} (h : ∀ x ∈ l, (Lit.int .u32 x).wf = true) : Dig l := fun x hx => by
  have := h x hx
  simp [Lit.wf, IntKind.min, IntKind.max, IntKind.bits, IntKind.signed] at this
  omega
theorem take_le (l : List Int) (n : Nat) : (l.take n).length ≤ n := by rw [List.length_take]; exact Nat.min_le_left _ _
theorem alive_true : fluxionlaw01_alive.f = some true := rfl
theorem fE2_zero {x y : List Int} (hx : Dig x) (hy : Dig y) : fE2 x y = 0 ↔ (x.length ≤ 512 ∧ Canon x) ∧ (y.length ≤ 512 ∧ Canon y) := by
  unfold fE2
  rw [← fE_zero hx, ← fE_zero hy]
  by_cases h : fE x = 0
  · rw [if_pos h]; exact ⟨fun e => ⟨h, e⟩, fun e => e.2⟩
  · rw [if_neg h]; exact ⟨fun e => absurd e h, fun e => absurd e.1 h⟩
theorem fE_ok {x : List Int} (h : x.length ≤ 512) (c : Canon x) : fE x = 0 := (fE_zero c.1).2 ⟨h, c⟩
theorem fE2_ok {x y : List Int} (h : x.length ≤ 512) (c : Canon x) (h' : y.length ≤ 512) (c' : Canon y) : fE2 x y = 0 := (fE2_zero c.1 c'.1).2 ⟨⟨h, c⟩, h', c'⟩

theorem Mul_ok {x y : List Int} (cx : Canon x) (cy : Canon y) (sx : x.length ≤ 512) (sy : y.length ≤ 512) : Ev (fun k => nat_Mul.f k x y) (num (val x * val y), 0) := by
  unfold nat_Mul.f
  exact Ev.bind (form2 x y (by omega) (by omega)) (ev_if (fE2_ok sx cx sy cy) (Ev.bind (mul_f cx.1 cy.1 (by omega)) (ev_some _)))
theorem Add_ok {x y : List Int} (cx : Canon x) (cy : Canon y) (sx : x.length ≤ 512) (sy : y.length ≤ 512) : Ev (fun k => nat_Add.f k x y) (num (val x + val y), 0) := by
  unfold nat_Add.f
  exact Ev.bind (form2 x y (by omega) (by omega)) (ev_if (fE2_ok sx cx sy cy) (Ev.bind (add_f cx.1 cy.1 (by omega) (by omega)) (ev_some _)))
theorem Sub_low {x y : List Int} (cx : Canon x) (cy : Canon y) (sx : x.length ≤ 512) (sy : y.length ≤ 512) (h : val x < val y) : Ev (fun k => nat_Sub.f k x y) ([], 4) := by
  unfold nat_Sub.f
  exact Ev.bind (form2 x y (by omega) (by omega)) (ev_if (fE2_ok sx cx sy cy) (Ev.bind (compare_f cx cy (by omega)) (ev_if (cmpI_neg.2 h) (ev_some _))))
theorem Sub_ok {x y : List Int} (cx : Canon x) (cy : Canon y) (sx : x.length ≤ 512) (sy : y.length ≤ 512) (h : val y ≤ val x) : Ev (fun k => nat_Sub.f k x y) (num (val x - val y), 0) := by
  unfold nat_Sub.f
  exact Ev.bind (form2 x y (by omega) (by omega)) (ev_if (fE2_ok sx cx sy cy) (Ev.bind (compare_f cx cy (by omega)) (ev_else (fun e => by have := cmpI_neg.1 e; omega) (Ev.bind (sub_f cx.1 cy.1 (by omega) (le_len cx.1 cy h) h) (ev_some _)))))
theorem Compare_ok {x y : List Int} (cx : Canon x) (cy : Canon y) (sx : x.length ≤ 512) (sy : y.length ≤ 512) : Ev (fun k => nat_Compare.f k x y) (cmpI (val x) (val y), 0) := by
  unfold nat_Compare.f
  exact Ev.bind (form2 x y (by omega) (by omega)) (ev_if (fE2_ok sx cx sy cy) (Ev.bind (compare_f cx cy (by omega)) (ev_some _)))
/-! ### the laws' helpers -/
theorem tame_trim (k : Nat) : ∀ x, fluxionlaw01_tame.l0 k x = nat_trim.l0 k x := by
  induction k with
  | zero => intro x; rfl
  | succ k ih => intro x; simp only [fluxionlaw01_tame.l0, nat_trim.l0, ih]
theorem tame_f (l : List Int) (n : Nat) (hn : n ≤ 1000000) : Ev (fun k => fluxionlaw01_tame.f k l (n : Int)) (tr (l.take n)) := by
  unfold fluxionlaw01_tame.f
  refine ev_val (cut_eq l n hn) (ev_eq (fun k => tame_trim k _) (trim_ev _ (by have := take_le l n; omega)))
theorem tame_ok {l : List Int} (h : ∀ x ∈ l, (Lit.int .u32 x).wf = true) (n : Nat) : Canon (tr (l.take n)) ∧ (tr (l.take n)).length ≤ n :=
  ⟨tr_canon (dig_take (dig_wf h) n), Nat.le_trans (tr_length _) (take_le l n)⟩
theorem val_512 {x : List Int} (h : Dig x) {n : Nat} (s : x.length ≤ n) : val x < pw n := by
  have := val_lt h
  have := pw_mono s
  omega
end Go.Proofs.Ytceglknbonfdeaa.PNat
