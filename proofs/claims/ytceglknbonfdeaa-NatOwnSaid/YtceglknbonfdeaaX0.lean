-- Printed by a program for this claim (wip/myprint.sh, wip/patchprint.py, wip/regroup.py)
import Derived.Test.YtceglknbonfdeaaProg
import Derived.Below
import Derived.Deep.Draws
import Derived.Deep.AppendLies
import Derived.Maps.AppendAt
import Derived.OwnWalk
import Derived.Laws.BytesArg
import Derived.Laws.MakeOwn
import Derived.Laws.OwnMore
import Derived.Deep.OwnRows
import Derived.Tactics
import Derived.Lib.ConvBytes
import Derived.Laws.Slices
import Derived.WalkKit
import Derived.KernelRfl
import Derived.RowKit3
import Derived.Deep.LoopGhost
import Derived.Deep.QuietTactic
import Derived.BigQuiet
import Derived.WideLaws
import Derived.Deep.DeepCutAuto
import Derived.Deep.CutBlock
import Derived.Deep.RegionHeld3
import Derived.Laws.Rows
import Derived.Lib.AppendStr
import Derived.ArgAppend
import Derived.Laws.IdiomCopy
import Derived.OrdersHeld
import Derived.Laws.BitsLemmas
import Derived.RowKit
import Derived.Test.YtceglknbonfdeaaDA
import Derived.Test.YtceglknbonfdeaaWWords
import Derived.Test.YtceglknbonfdeaaWLast
import Derived.Test.YtceglknbonfdeaaWTab
import Derived.Test.YtceglknbonfdeaaWFour
import Derived.Test.YtceglknbonfdeaaWQPut
import Derived.Test.YtceglknbonfdeaaWApart
import Derived.Test.YtceglknbonfdeaaWArr
import Derived.Test.YtceglknbonfdeaaWZeros
import Derived.Test.YtceglknbonfdeaaWFoot
import Derived.Test.YtceglknbonfdeaaWKept
import Derived.Test.YtceglknbonfdeaaWShare
import Derived.Test.YtceglknbonfdeaaWN
import Derived.Test.YtceglknbonfdeaaWFootNe
import Derived.Test.YtceglknbonfdeaaWAt
import Derived.Test.YtceglknbonfdeaaWEqStruct
import Derived.Test.YtceglknbonfdeaaWRepsOne
import Derived.Test.YtceglknbonfdeaaWInv
import Derived.Test.YtceglknbonfdeaaWInvWords
import Derived.Test.YtceglknbonfdeaaWGuard
import Derived.Test.YtceglknbonfdeaaWNEv
import Derived.Test.YtceglknbonfdeaaWMore
namespace Go.Proofs.Ytceglknbonfdeaa.PNat
open Go.RowKit Go.Proofs.YtceglknbonfdeaaW.PrintWords Go.Proofs.YtceglknbonfdeaaW.PrintLast Go.Proofs.YtceglknbonfdeaaW.PrintMore
attribute [local go_sem] max2_int min2_int max_two min_two max_three min_three max_four min_four   -- for this text's walks alone
set_option linter.unusedVariables false
set_option linter.unusedSimpArgs false

def errW : Option Int → Value
  | none => .nilIface
  | some c => .iface 0 (.int .i64 c)
theorem errW_none : errW none = .nilIface := rfl
theorem errW_some (c : Int) : errW (some c) = .iface 0 (.int .i64 c) := rfl

theorem info5 : (Try.prog.info? 5).map (fun i => (i.zero, i.size, i.bytes)) = some (some (.int .u8 0), 1, 1) := by kernel_rfl
theorem info22 : (Try.prog.info? 22).map (fun i => (i.zero, i.size, i.bytes)) = some (some (.slice none 0 0), 1, 24) := by kernel_rfl
theorem info47 : (Try.prog.info? 47).map (fun i => (i.zero, i.size, i.bytes)) = some (some (.int .u32 0), 1, 4) := by kernel_rfl
-- the values' own types
theorem at_L1 {w : World} {A : Option Addr} {n : Nat} {xs : List (List Int)} (h : Kd.C (Kd.slice 47 (Kd.int .u32)) w A n xs) (i : Int) (h0 : 0 ≤ i) (h1 : i < n) : ∃ ad A0 c0, A = some ad ∧ w.cell? (ad.add i.toNat) = some (.slice A0 (rd_L1 xs i).length c0) ∧ (rd_L1 xs i).length ≤ c0 ∧ (Kd.int .u32).C w A0 (rd_L1 xs i).length (rd_L1 xs i) := by
  obtain ⟨ad, c, e, _, hK, hc0⟩ := Kd.C_get h ([] : List Int) i h0 h1
  have hc : ∀ j u, c[j]? = some u → w.cell? (ad.add (i.toNat * 1 + j)) = some u := hc0
  obtain ⟨A0, c0, rfl, l0, g0⟩ := hK
  exact ⟨ad, A0, c0, e, by have hq := hc 0 _ rfl; rwa [Nat.mul_one, Nat.add_zero] at hq, l0, g0⟩

theorem reads_len {α : Type} {R : α → List Value → Prop} {size : Nat} {w : World} {A : Option Addr} {n m : Nat} {ps : List α} (h : ReadsRow R size w A n ps) (e : n = m) : ReadsRow R size w A m ps := e ▸ h
/-- 'make([]uint32, 0, m)'. -/
theorem make0_run (m : Int) (h0 : 0 ≤ m) (h1 : m ≤ 70368744177664) : ∀ W : World, Sem.run Try.prog (Instr.makeSlice 22 (.int .i64 0) (.int .i64 m)) W = .ok (.slice (some ⟨W.heap.size, 0, none⟩) 0 m.toNat) (W.alloc (.cells (madeCells #[.int .u32 0] m.toNat) 47)) := by
  intro W
  obtain ⟨i0, hi, hz0, hz1, hz2⟩ := info_parts info47
  have h := run_make (P := Try.prog) W 22 47 i0 (.int .u32 0) Try.underlying22 hi hz0 .i64 .i64 0 m (by omega) h0 (by rw [hz2]; omega) (by omega)
  rw [hz1, Nat.mul_one] at h
  exact h
section
variable {P : Program} {ops : Array Oper} {o : Oper} {rest : List Oper} {a : Act} {Q : Exit → Act → World → Prop} {α : Type}
/-- A row of the call's own with no element yet, and room for c. -/
theorem R_make0 (d : Kd α) {w0 W : World} (base e : Nat) (hgd : o.guard = none) {N : Tmp} (_hd : o.dst = some N) (c : Nat) (cs : Array Value) {ok : Nat → Prop}
    (hrun : (execOp a.eval o).run P W = .ok (.value (.slice (some ⟨W.heap.size, 0, none⟩) 0 c)) (W.alloc (.cells cs e)))
    (hcs : cs.size = c * d.sz) (hfresh : ok W.heap.size) (HB : Below base w0 W) (hbase : base ≤ W.heap.size) (hm : c ≤ 9223372036854775807)
    (h : ∀ v1 w1, d.R e w1 base ok v1 [] → Below base w0 w1 → W.grownBy w1 none → (∃ b, v1.ownBlock = some b ∧ W.heap.size ≤ b) → wpList P ops Q rest (a.put o.dst v1) w1) : wpList P ops Q (o :: rest) a W := by
  refine Kd.event_run hgd hrun (h _ _ ⟨fun k hk => ?_, [], ?_, Reps.none _ _⟩ (HB.alloc hbase _) (World.grownBy_alloc W _ none) ⟨W.heap.size, by simp [Value.ownBlock], Nat.le_refl _⟩)
  · have : W.heap.size = k := by simpa [Value.ownBlock] using hk
    subst this
    exact hfresh
  · exact World.ownsRow_made W cs c hbase (by simpa [maxLen] using hm) hcs
end
/-! A piece in the middle of a row of the call's own: its cells, and a store into it. -/
theorem rd_mid (pre x post : List Int) (i : Int) (h0 : 0 ≤ i) (h1 : i < (x.length : Int)) : rd (pre ++ x ++ post) ((pre.length : Int) + i) = rd x i := by
  unfold rd
  have e : ((pre.length : Int) + i).toNat = pre.length + i.toNat := by omega
  have hlt : i.toNat < x.length := by omega
  simp only [e, List.getD_eq_getElem?_getD, List.append_assoc]
  rw [List.getElem?_append_right (by omega), List.getElem?_append_left (by omega), Nat.add_sub_cancel_left]
theorem set_mid (pre x post : List Int) (i : Int) (v : Int) (h0 : 0 ≤ i) (h1 : i < (x.length : Int)) : (pre ++ x ++ post).set ((pre.length : Int) + i).toNat v = pre ++ x.set i.toNat v ++ post := by
  have e : ((pre.length : Int) + i).toNat = pre.length + i.toNat := by omega
  have hlt : i.toNat < x.length := by omega
  rw [e, List.append_assoc, List.set_append_right _ _ (by omega), Nat.add_sub_cancel_left, List.set_append_left _ _ hlt, List.append_assoc]
theorem seg_cell {W : World} {base g N cap p : Nat} {ok : Nat → Prop} {pre x post : List Int} (hp : pre.length = p) (h : Kd.R (Kd.int .u32) 47 W base ok (.slice (some ⟨g, 0, none⟩) N cap) (pre ++ x ++ post)) (i : Int) (h0 : 0 ≤ i) (h1 : i < (x.length : Int)) :
    W.cell? ⟨g, p + i.toNat, none⟩ = some (.int .u32 (rd x i)) ∧ W.frozen? ⟨g, p + i.toNat, none⟩ = false := by
  have hn : N = (pre ++ x ++ post).length := (Kd.R_reads' h).1
  have hl : ((pre ++ x ++ post).length : Int) = pre.length + x.length + post.length := by simp only [List.length_append]; omega
  have hc := Kd.R_celln (enc := Value.int .u32) (h1 := fun _ => rfl) (0 : Int) h ((pre.length : Int) + i) (by omega) (by omega)
  have e : ((pre.length : Int) + i).toNat = p + i.toNat := by omega
  rw [e] at hc
  refine ⟨?_, hc.2⟩
  rw [hc.1]
  exact congrArg (fun z => some (Value.int .u32 z)) (rd_mid pre x post i h0 h1)
theorem seg_put {W : World} {base g N cap p : Nat} {ok : Nat → Prop} {pre x post : List Int} (hp : pre.length = p) (h : Kd.R (Kd.int .u32) 47 W base ok (.slice (some ⟨g, 0, none⟩) N cap) (pre ++ x ++ post)) (i : Int) (v : Int) (h0 : 0 ≤ i) (h1 : i < (x.length : Int)) :
    Kd.R (Kd.int .u32) 47 (W.setCell ⟨g, p + i.toNat, none⟩ (.int .u32 v)) base ok (.slice (some ⟨g, 0, none⟩) N cap) (pre ++ x.set i.toNat v ++ post) ∧ W.grownBy (W.setCell ⟨g, p + i.toNat, none⟩ (.int .u32 v)) (some g) := by
  have hc := Kd.R_putg (enc := Value.int .u32) (h1 := fun _ => rfl) h ((pre.length : Int) + i) v
  rw [set_mid pre x post i v h0 h1] at hc
  have e : ((pre.length : Int) + i).toNat = p + i.toNat := by omega
  rw [e] at hc
  exact hc

end Go.Proofs.Ytceglknbonfdeaa.PNat
