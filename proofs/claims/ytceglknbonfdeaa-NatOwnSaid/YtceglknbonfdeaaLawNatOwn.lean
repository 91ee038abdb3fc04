/- The law of own memory, with no program: what the functions return for a number and the neutral element is that number again. -/
-- Printed by a program for this claim (wip/myprint.sh over wip/patchprint.py)
import Derived.Test.YtceglknbonfdeaaN7d
import Derived.Test.YtceglknbonfdeaaN10
import Derived.Test.YtceglknbonfdeaaN11
import Derived.Test.YtceglknbonfdeaaN12
import Derived.Test.YtceglknbonfdeaaN15
import Derived.Test.YtceglknbonfdeaaRows
import Derived.Test.YtceglknbonfdeaaCNatOwn
import Derived.WalkKit
import Derived.ProofKit
import Derived.OpenShut
import Derived.ShutString
import Derived.ChangeOld
import Derived.Below
import Derived.SizedLaws
import Derived.Test.YtceglknbonfdeaaWSized
namespace Go.Proofs.Ytceglknbonfdeaa.Pure
open Go.RowKit Go.Proofs.YtceglknbonfdeaaW.PrintWords Go.Proofs.YtceglknbonfdeaaW.PrintLast Go.Proofs.YtceglknbonfdeaaW.PrintMore PNat
set_option linter.unusedVariables false
theorem NatOwn : fluxionlaw01_NatOwn.Pure := by
  intro l0 l1 _ _ w0 _ _ w1
  obtain ⟨cx, sx⟩ := tame_ok w0 50
  obtain ⟨cy, sy⟩ := tame_ok w1 50
  have tx := tame_f l0 50 (by omega)
  have ty := tame_f l1 50 (by omega)
  generalize tr (l0.take 50) = x at *
  generalize tr (l1.take 50) = y at *
  refine ev_out (r := true) ?_
  unfold fluxionlaw01_NatOwn.f
  have vx := val_nonneg cx.1
  have vy := val_nonneg cy.1
  have c1 : Canon [1] := ⟨dig_cons.2 ⟨by omega, dig_nil⟩, .inr (by decide)⟩
  have cutx := cut_eq x 50 (by omega)
  rw [List.take_of_length_le sx] at cutx
  have cuty := cut_eq y 50 (by omega)
  rw [List.take_of_length_le sy] at cuty
  have hc := Compare_ok cx cy (by omega) (by omega)
  obtain ⟨sb, hs⟩ : ∃ b, Ev (fun k => nat_Sub.f k x y) b := by
    rcases Int.lt_or_le (val x) (val y) with h | h
    · exact ⟨_, Sub_low cx cy (by omega) (by omega) h⟩
    · exact ⟨_, Sub_ok cx cy (by omega) (by omega) h⟩
  obtain ⟨s, _, hr⟩ := Root_ok cx (by omega)
  have ht := Text_ok cx (by omega)
  have ha := Add_ok cx canon_nil (by omega) (by decide)
  rw [val_nil, Int.add_zero, num_of cx] at ha
  have hm := Mul_ok cx c1 (by omega) (by decide)
  rw [show val [1] = 1 from rfl, Int.mul_one, num_of cx] at hm
  have hg := Gcd_ok cx canon_nil (by omega) (by decide)
  rw [val_nil, gI_zero vx, num_of cx] at hg
  have hd := Div_ok cx c1 (by omega) (by decide) (by decide)
  rw [show val [1] = 1 from rfl, Int.ediv_one, Int.emod_one, num_of cx, num_zero] at hd
  obtain ⟨b, hb, b1, b2, b3, b4⟩ := size_f cy (by omega)
  have hp : Ev (fun k => nat_Power.f k y 1) (y, 0) := by
    have h := ((Power_ok cy (by omega) 1 b b1 b2 b3).2 (by omega) (by omega)).2 (by omega)
    rw [show (1 : Int).toNat = 1 from rfl, Int.pow_one, num_of cy] at h
    exact h
  refine Ev.bind tx (Ev.bind ty (ev_val cutx (ev_val cuty (Ev.bind hc (Ev.bind hs (Ev.bind hr (Ev.bind ht (Ev.bind ha (Ev.bind hm (Ev.bind hg (Ev.bind hd (Ev.bind hp ?_))))))))))))
  refine ev_if rfl (ev_if rfl (ev_if rfl (ev_if rfl (ev_if rfl ?_))))
  have sax : ∀ {a b : List Int}, a = b → a.length ≤ 50 → Ev (fun k => fluxionlaw01_same.f k a b) true := fun h hl => same_true h (by omega)
  refine Ev.bind (sax rfl sx) (ev_if rfl (Ev.bind (sax rfl sy) (ev_if rfl (Ev.bind (sax rfl sx) (ev_if rfl (Ev.bind (sax rfl sx) (ev_if rfl (Ev.bind (sax rfl sx) (ev_if rfl (Ev.bind (sax rfl sx) (ev_if rfl (ev_else (by show ¬ ((([] : List Int).length : Int) > 0); decide) (Ev.bind (sax rfl sy) ?_)))))))))))))
  refine ev_succ ?_
  simp only [fluxionlaw01_NatOwn.j0]
  refine ev_else (by decide) (ev_else ?_ (Ev.bind (sax rfl sx) (ev_if rfl (Ev.bind (sax rfl sy) (ev_if rfl (ev_val alive_true (ev_some _)))))))
  omega
end Go.Proofs.Ytceglknbonfdeaa.Pure

namespace Go.Proofs.Ytceglknbonfdeaa.natOwn
open Go.ChangeShapes Go.WideShapes Go.ChangeAt Go.RowKit
open Go.ChangeMaps (open_string shut_string)
set_option linter.unusedVariables false
theorem own : ownKnob Try.prog.godebug = none := by kernel_rfl
theorem laidOut : laidOutB Try.prog = true := by kernel_rfl
def IsRow (k : IntKind) (w : World) (a : Option Addr) (len cap : Nat) (zs : List Int) : Prop :=
  (a = none ∧ len = 0 ∧ cap = 0 ∧ zs = []) ∨
  ∃ x, a = some x ∧ len ≤ cap ∧ cap ≤ maxLen ∧ zs.length = cap ∧ (∀ i, i < zs.length → w.cell? (x.add i) = some (.int k (zs.getD i 0))) ∧ ∀ n ∈ zs, (Lit.int k n).wf = true
set_option maxRecDepth 100000 in
theorem lifted (os : Os) (started : os.Started) (H : Type) (enc : TypeId × Value → H) :
    ReturnsInHanded {} Try.checked os 18 .any (Rows.natOwnSpec.pre6 enc Try.prog Try.f18 Rows.natOwnRow.domain false) (Rows.natOwnSpec.post enc Try.prog Try.f18 false true false false) := by
  refine returnsInHanded_of_change_sized (C := Try.checked) own started (by kernel_rfl) Try.func18
    (ChangeSpec.witness6 (enc := enc) (C := Try.checked) false ⟨#[], #[.slice none 0 0, .slice none 0 0], []⟩ 8 (by kernel_rfl) (by kernel_rfl) (by kernel_rfl) (by kernel_rfl)) ?_
  intro W base args ds gs before hval0 hW hcnd hsz0 _
  have hsz : (DataW.weightsEach Try.prog (Try.f18.params.toList ++ Rows.natOwnSpec.plain.varTypes Try.prog) (ds ++ gs)).all (· ≤ reachBytes) = true := hsz0
  have hval : ∀ (j : Nat) t v, Try.f18.params[j]? = some t → args[j]? = some v → Value.okWide Try.prog W .any base t v := hval0
  have hW' := hW
  obtain ⟨p, q, hA0, hV, rfl, hfz, hnd⟩ := hW
  have hA : DataW.TrodAll enc Try.prog W 0 (fun _ => true) true Try.f18.params.toList args.toList ds p := hA0
  rw [Try.params18] at hA hval hsz
  obtain ⟨v0, vs0, d0, ds0, p0, q0, hargs, rfl, rfl, h0, r0⟩ := trodAll_cons hA
  obtain ⟨v1, vs1, d1, ds1, p1, q1, rfl, rfl, rfl, h1, r1⟩ := trodAll_cons r0
  obtain ⟨rfl, rfl, rfl⟩ := trodAll_nil r1
  obtain rfl : args = #[v0, v1] := by cases args; simp_all
  obtain ⟨rfl, rfl⟩ := trodVars_none hV
  obtain ⟨a0, len0, cap0, rfl⟩ := okWide_slice Try.underlying22 (hval 0 22 v0 rfl rfl)
  have k0 := h0
  have lt0 : ∀ x ∈ p0, x.block < W.heap.size := by obtain ⟨m, hm⟩ := k0; exact DataW.trod_lt m _ _ _ hm
  obtain ⟨z0, w0⟩ : ∃ zs, IsRow .u32 W a0 len0 cap0 zs := by
    obtain ⟨fuel, hf⟩ := h0
    rcases open_ints Try.underlying22 Try.underlying47 (by kernel_rfl) hf with ⟨hcs, _⟩ | ⟨x, l, c, zs, hcs, _, hl, hm, hz, _, hcell, hwz⟩
    · simp [Value.cells] at hcs
      obtain ⟨rfl, rfl, rfl⟩ := hcs
      exact ⟨[], .inl ⟨rfl, rfl, rfl, rfl⟩⟩
    · simp [Value.cells] at hcs
      obtain ⟨rfl, rfl, rfl⟩ := hcs
      exact ⟨zs, .inr ⟨_, rfl, hl, hm, by simpa using hz, hcell, hwz⟩⟩
  have y0 : len0 * 4 ≤ 140737488351232 := YtceglknbonfdeaaW.PrintWords.sized_ints hsz (j := 0) (t := 22) rfl rfl Try.underlying22 Try.underlying47 (by kernel_rfl) (by kernel_rfl) h0
  obtain ⟨a1, len1, cap1, rfl⟩ := okWide_slice Try.underlying22 (hval 1 22 v1 rfl rfl)
  have k1 := h1
  have lt1 : ∀ x ∈ p1, x.block < W.heap.size := by obtain ⟨m, hm⟩ := k1; exact DataW.trod_lt m _ _ _ hm
  obtain ⟨z1, w1⟩ : ∃ zs, IsRow .u32 W a1 len1 cap1 zs := by
    obtain ⟨fuel, hf⟩ := h1
    rcases open_ints Try.underlying22 Try.underlying47 (by kernel_rfl) hf with ⟨hcs, _⟩ | ⟨x, l, c, zs, hcs, _, hl, hm, hz, _, hcell, hwz⟩
    · simp [Value.cells] at hcs
      obtain ⟨rfl, rfl, rfl⟩ := hcs
      exact ⟨[], .inl ⟨rfl, rfl, rfl, rfl⟩⟩
    · simp [Value.cells] at hcs
      obtain ⟨rfl, rfl, rfl⟩ := hcs
      exact ⟨zs, .inr ⟨_, rfl, hl, hm, by simpa using hz, hcell, hwz⟩⟩
  have y1 : len1 * 4 ≤ 140737488351232 := YtceglknbonfdeaaW.PrintWords.sized_ints hsz (j := 1) (t := 22) rfl rfl Try.underlying22 Try.underlying47 (by kernel_rfl) (by kernel_rfl) h1
  clear hA0 hval0 hsz0 hsz
  refine (PNat.fluxionlaw01_NatOwn.walk Pure.NatOwn a0 len0 cap0 z0 a1 len1 cap1 z1 W w0 y0 w1 y1).mono fun e W' ⟨he, bel⟩ => ?_
  subst he
  exact ⟨_, rfl, _, _, _, [], _, [], hW', trodAll_mk1 (shut_bool Try.underlying4 _), (trodAll_cons_mk (Below.trod laidOut (by kernel_rfl) (of_decide_eq_true (by kernel_rfl)) k0 bel lt0) (trodAll_cons_mk (Below.trod laidOut (by kernel_rfl) (of_decide_eq_true (by kernel_rfl)) k1 bel lt1) trodAll_mk0)), rfl, bel.frame _, fun h => by cases h⟩
theorem over : Rows.natOwnRow.holds Try.pinned (OpenSpec.ofChange Rows.natOwnSpec) :=
  OpenClaim.holds_of_wide 18 Try.f18 rfl rfl rfl rfl rfl rfl rfl ⟨rfl, rfl, rfl, rfl, rfl⟩ rfl rfl rfl rfl rfl (by kernel_rfl) Try.func18 (by kernel_rfl)
    (of_decide_eq_true (by kernel_rfl)) (by unfold Func.isWrapper; first | (rw [if_pos (by decide +kernel)]; kernel_rfl) | (rw [if_neg (by decide +kernel)]; exact ⟨rfl, rfl⟩))
    (fun os started H enc _ => lifted os started H enc)
theorem proved : Rows.NatOwnSaid := over
#print axioms proved
end Go.Proofs.Ytceglknbonfdeaa.natOwn
namespace Go.Proofs.Ytceglknbonfdeaa
/-- The row, under a short name, for the claim. -/
theorem natOwn_holds : Rows.NatOwnSaid := natOwn.proved
end Go.Proofs.Ytceglknbonfdeaa
