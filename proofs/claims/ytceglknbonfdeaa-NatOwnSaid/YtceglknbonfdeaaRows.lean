/-
  No cell of these rows narrows 'for every input' (looked for: loops, veiled, ifaces, maps, wideKeys, modest, calm, conditions, laid).
  DERIVED. THE GIVEN ROWS OF THIS SEAT. 16 by the template 'for every input the law returns true; each argument reads behind the call as it read before'; 0 by the template 'total and deterministic' (their statements: YtceglknbonfdeaaTotals.lean).
  GIVEN WITH THE SEED: the statements are not yours to turn. If you find one false, say at which input.
  Laid BY PROGRAM, IN A SANDBOX (cutbox-rows.mjs): the forced cells as the released guide's own fill.sh prints them over the translation e75a0af94275b936… (all of the seat's roots in one cut). By AI agents, Wed Nov 11 2026. No macro, syntax, notation, axiom, sorry.
-/
import Derived.Test.YtceglknbonfdeaaChecked
import GoSem.Claim
import GoSem.ClaimJoined
import GoSem.ClaimMapViews
import Derived.JoinedTies
import Derived.KernelRfl
namespace Go.Proofs.Ytceglknbonfdeaa
/- THE CELL 'sum', in the pinned program and in every row, IS THE sha256 OF THE DUMP (.gsa) THAT YtceglknbonfdeaaProg.lean LOADS. Nothing in Lean hashes anything: it is a label: what it is worth is what the hold of that sum in a sandbox is worth. -/
noncomputable def Try.pinned : Pinned := { name := "ytceglknbonfdeaa", sum := "e75a0af94275b9369d42a1b9ec6640ef9d2ba80fed1111fd18e8fcc3fa65c2fd", checked := Try.checked }
namespace Rows
def none {H : Type} : Left H := { results := [], args := [] }

/-- 'fluxionlaw01.NatQuotients': WHATEVER THE INPUT: true; the input reads as it did. -/
def natQuotientsSpec : ChangeSpec := { name := "natQuotients", fn := fun _ => fun
  | [d1, d2] => { results := [.lit (.bool true)], args := [d1, d2] }
  | _ => none }
def natQuotientsRow : OpenClaim := { program := "ytceglknbonfdeaa", sum := "e75a0af94275b9369d42a1b9ec6640ef9d2ba80fed1111fd18e8fcc3fa65c2fd", func := "fluxion/fluxionlaw01.NatQuotients", spec := "natQuotients", apart := false }
def NatQuotientsSaid : Prop := natQuotientsRow.holds Try.pinned (OpenSpec.ofChange natQuotientsSpec)

/-- ITS FALSE NEIGHBOUR: 'it returns false'. Refute it at one input. -/
def natQuotientsWrong : ChangeSpec := { name := "natQuotients", fn := fun _ => fun
  | [d1, d2] => { results := [.lit (.bool false)], args := [d1, d2] }
  | _ => none }
def NatQuotientsWrongFalsely : Prop := natQuotientsRow.holds Try.pinned (OpenSpec.ofChange natQuotientsWrong)

/-- 'fluxionlaw01.NatDivisors': WHATEVER THE INPUT: true; the input reads as it did. -/
def natDivisorsSpec : ChangeSpec := { name := "natDivisors", fn := fun _ => fun
  | [d1, d2] => { results := [.lit (.bool true)], args := [d1, d2] }
  | _ => none }
def natDivisorsRow : OpenClaim := { program := "ytceglknbonfdeaa", sum := "e75a0af94275b9369d42a1b9ec6640ef9d2ba80fed1111fd18e8fcc3fa65c2fd", func := "fluxion/fluxionlaw01.NatDivisors", spec := "natDivisors", apart := false }
def NatDivisorsSaid : Prop := natDivisorsRow.holds Try.pinned (OpenSpec.ofChange natDivisorsSpec)

/-- ITS FALSE NEIGHBOUR: 'it returns false'. Refute it at one input. -/
def natDivisorsWrong : ChangeSpec := { name := "natDivisors", fn := fun _ => fun
  | [d1, d2] => { results := [.lit (.bool false)], args := [d1, d2] }
  | _ => none }
def NatDivisorsWrongFalsely : Prop := natDivisorsRow.holds Try.pinned (OpenSpec.ofChange natDivisorsWrong)

/-- 'fluxionlaw01.NatRoots': WHATEVER THE INPUT: true; the input reads as it did. -/
def natRootsSpec : ChangeSpec := { name := "natRoots", fn := fun _ => fun
  | [d] => { results := [.lit (.bool true)], args := [d] }
  | _ => none }
def natRootsRow : OpenClaim := { program := "ytceglknbonfdeaa", sum := "e75a0af94275b9369d42a1b9ec6640ef9d2ba80fed1111fd18e8fcc3fa65c2fd", func := "fluxion/fluxionlaw01.NatRoots", spec := "natRoots", apart := false }
def NatRootsSaid : Prop := natRootsRow.holds Try.pinned (OpenSpec.ofChange natRootsSpec)

/-- ITS FALSE NEIGHBOUR: 'it returns false'. Refute it at one input. -/
def natRootsWrong : ChangeSpec := { name := "natRoots", fn := fun _ => fun
  | [d] => { results := [.lit (.bool false)], args := [d] }
  | _ => none }
def NatRootsWrongFalsely : Prop := natRootsRow.holds Try.pinned (OpenSpec.ofChange natRootsWrong)

/-- 'fluxionlaw01.NatTexts': WHATEVER THE INPUT: true; the input reads as it did. -/
def natTextsSpec : ChangeSpec := { name := "natTexts", fn := fun _ => fun
  | [d1, d2] => { results := [.lit (.bool true)], args := [d1, d2] }
  | _ => none }
def natTextsRow : OpenClaim := { program := "ytceglknbonfdeaa", sum := "e75a0af94275b9369d42a1b9ec6640ef9d2ba80fed1111fd18e8fcc3fa65c2fd", func := "fluxion/fluxionlaw01.NatTexts", spec := "natTexts", apart := false }
def NatTextsSaid : Prop := natTextsRow.holds Try.pinned (OpenSpec.ofChange natTextsSpec)

/-- ITS FALSE NEIGHBOUR: 'it returns false'. Refute it at one input. -/
def natTextsWrong : ChangeSpec := { name := "natTexts", fn := fun _ => fun
  | [d1, d2] => { results := [.lit (.bool false)], args := [d1, d2] }
  | _ => none }
def NatTextsWrongFalsely : Prop := natTextsRow.holds Try.pinned (OpenSpec.ofChange natTextsWrong)

/-- 'fluxionlaw01.NatProducts': WHATEVER THE INPUT: true; the input reads as it did. -/
def natProductsSpec : ChangeSpec := { name := "natProducts", fn := fun _ => fun
  | [d1, d2] => { results := [.lit (.bool true)], args := [d1, d2] }
  | _ => none }
def natProductsRow : OpenClaim := { program := "ytceglknbonfdeaa", sum := "e75a0af94275b9369d42a1b9ec6640ef9d2ba80fed1111fd18e8fcc3fa65c2fd", func := "fluxion/fluxionlaw01.NatProducts", spec := "natProducts", apart := false }
def NatProductsSaid : Prop := natProductsRow.holds Try.pinned (OpenSpec.ofChange natProductsSpec)

/-- ITS FALSE NEIGHBOUR: 'it returns false'. Refute it at one input. -/
def natProductsWrong : ChangeSpec := { name := "natProducts", fn := fun _ => fun
  | [d1, d2] => { results := [.lit (.bool false)], args := [d1, d2] }
  | _ => none }
def NatProductsWrongFalsely : Prop := natProductsRow.holds Try.pinned (OpenSpec.ofChange natProductsWrong)

/-- 'fluxionlaw01.NatCoprime': WHATEVER THE INPUT: true; the input reads as it did. -/
def natCoprimeSpec : ChangeSpec := { name := "natCoprime", fn := fun _ => fun
  | [d1, d2, d3] => { results := [.lit (.bool true)], args := [d1, d2, d3] }
  | _ => none }
def natCoprimeRow : OpenClaim := { program := "ytceglknbonfdeaa", sum := "e75a0af94275b9369d42a1b9ec6640ef9d2ba80fed1111fd18e8fcc3fa65c2fd", func := "fluxion/fluxionlaw01.NatCoprime", spec := "natCoprime", apart := false }
def NatCoprimeSaid : Prop := natCoprimeRow.holds Try.pinned (OpenSpec.ofChange natCoprimeSpec)

/-- ITS FALSE NEIGHBOUR: 'it returns false'. Refute it at one input. -/
def natCoprimeWrong : ChangeSpec := { name := "natCoprime", fn := fun _ => fun
  | [d1, d2, d3] => { results := [.lit (.bool false)], args := [d1, d2, d3] }
  | _ => none }
def NatCoprimeWrongFalsely : Prop := natCoprimeRow.holds Try.pinned (OpenSpec.ofChange natCoprimeWrong)

/-- 'fluxionlaw01.NatReads': WHATEVER THE INPUT: true; the input reads as it did. -/
def natReadsSpec : ChangeSpec := { name := "natReads", fn := fun _ => fun
  | [d1, d2] => { results := [.lit (.bool true)], args := [d1, d2] }
  | _ => none }
def natReadsRow : OpenClaim := { program := "ytceglknbonfdeaa", sum := "e75a0af94275b9369d42a1b9ec6640ef9d2ba80fed1111fd18e8fcc3fa65c2fd", func := "fluxion/fluxionlaw01.NatReads", spec := "natReads", apart := false }
def NatReadsSaid : Prop := natReadsRow.holds Try.pinned (OpenSpec.ofChange natReadsSpec)

/-- ITS FALSE NEIGHBOUR: 'it returns false'. Refute it at one input. -/
def natReadsWrong : ChangeSpec := { name := "natReads", fn := fun _ => fun
  | [d1, d2] => { results := [.lit (.bool false)], args := [d1, d2] }
  | _ => none }
def NatReadsWrongFalsely : Prop := natReadsRow.holds Try.pinned (OpenSpec.ofChange natReadsWrong)

/-- 'fluxionlaw01.NatForms': WHATEVER THE INPUT: true; the input reads as it did. -/
def natFormsSpec : ChangeSpec := { name := "natForms", fn := fun _ => fun
  | [d1, d2] => { results := [.lit (.bool true)], args := [d1, d2] }
  | _ => none }
def natFormsRow : OpenClaim := { program := "ytceglknbonfdeaa", sum := "e75a0af94275b9369d42a1b9ec6640ef9d2ba80fed1111fd18e8fcc3fa65c2fd", func := "fluxion/fluxionlaw01.NatForms", spec := "natForms", unfollowed := true, recurses := true, apart := false }
def NatFormsSaid : Prop := natFormsRow.holds Try.pinned (OpenSpec.ofChange natFormsSpec)

/-- ITS FALSE NEIGHBOUR: 'it returns false'. Refute it at one input. -/
def natFormsWrong : ChangeSpec := { name := "natForms", fn := fun _ => fun
  | [d1, d2] => { results := [.lit (.bool false)], args := [d1, d2] }
  | _ => none }
def NatFormsWrongFalsely : Prop := natFormsRow.holds Try.pinned (OpenSpec.ofChange natFormsWrong)

/-- 'fluxionlaw01.NatBits': WHATEVER THE INPUT: true; the input reads as it did. -/
def natBitsSpec : ChangeSpec := { name := "natBits", fn := fun _ => fun
  | [d1, d2] => { results := [.lit (.bool true)], args := [d1, d2] }
  | _ => none }
def natBitsRow : OpenClaim := { program := "ytceglknbonfdeaa", sum := "e75a0af94275b9369d42a1b9ec6640ef9d2ba80fed1111fd18e8fcc3fa65c2fd", func := "fluxion/fluxionlaw01.NatBits", spec := "natBits", apart := false }
def NatBitsSaid : Prop := natBitsRow.holds Try.pinned (OpenSpec.ofChange natBitsSpec)

/-- ITS FALSE NEIGHBOUR: 'it returns false'. Refute it at one input. -/
def natBitsWrong : ChangeSpec := { name := "natBits", fn := fun _ => fun
  | [d1, d2] => { results := [.lit (.bool false)], args := [d1, d2] }
  | _ => none }
def NatBitsWrongFalsely : Prop := natBitsRow.holds Try.pinned (OpenSpec.ofChange natBitsWrong)

/-- 'fluxionlaw01.NatSums': WHATEVER THE INPUT: true; the input reads as it did. -/
def natSumsSpec : ChangeSpec := { name := "natSums", fn := fun _ => fun
  | [d1, d2] => { results := [.lit (.bool true)], args := [d1, d2] }
  | _ => none }
def natSumsRow : OpenClaim := { program := "ytceglknbonfdeaa", sum := "e75a0af94275b9369d42a1b9ec6640ef9d2ba80fed1111fd18e8fcc3fa65c2fd", func := "fluxion/fluxionlaw01.NatSums", spec := "natSums", apart := false }
def NatSumsSaid : Prop := natSumsRow.holds Try.pinned (OpenSpec.ofChange natSumsSpec)

/-- ITS FALSE NEIGHBOUR: 'it returns false'. Refute it at one input. -/
def natSumsWrong : ChangeSpec := { name := "natSums", fn := fun _ => fun
  | [d1, d2] => { results := [.lit (.bool false)], args := [d1, d2] }
  | _ => none }
def NatSumsWrongFalsely : Prop := natSumsRow.holds Try.pinned (OpenSpec.ofChange natSumsWrong)

/-- 'fluxionlaw01.NatSquare': WHATEVER THE INPUT: true; the input reads as it did. -/
def natSquareSpec : ChangeSpec := { name := "natSquare", fn := fun _ => fun
  | [d] => { results := [.lit (.bool true)], args := [d] }
  | _ => none }
def natSquareRow : OpenClaim := { program := "ytceglknbonfdeaa", sum := "e75a0af94275b9369d42a1b9ec6640ef9d2ba80fed1111fd18e8fcc3fa65c2fd", func := "fluxion/fluxionlaw01.NatSquare", spec := "natSquare", apart := false }
def NatSquareSaid : Prop := natSquareRow.holds Try.pinned (OpenSpec.ofChange natSquareSpec)

/-- ITS FALSE NEIGHBOUR: 'it returns false'. Refute it at one input. -/
def natSquareWrong : ChangeSpec := { name := "natSquare", fn := fun _ => fun
  | [d] => { results := [.lit (.bool false)], args := [d] }
  | _ => none }
def NatSquareWrongFalsely : Prop := natSquareRow.holds Try.pinned (OpenSpec.ofChange natSquareWrong)

/-- 'fluxionlaw01.NatDivision': WHATEVER THE INPUT: true; the input reads as it did. -/
def natDivisionSpec : ChangeSpec := { name := "natDivision", fn := fun _ => fun
  | [d1, d2] => { results := [.lit (.bool true)], args := [d1, d2] }
  | _ => none }
def natDivisionRow : OpenClaim := { program := "ytceglknbonfdeaa", sum := "e75a0af94275b9369d42a1b9ec6640ef9d2ba80fed1111fd18e8fcc3fa65c2fd", func := "fluxion/fluxionlaw01.NatDivision", spec := "natDivision", apart := false }
def NatDivisionSaid : Prop := natDivisionRow.holds Try.pinned (OpenSpec.ofChange natDivisionSpec)

/-- ITS FALSE NEIGHBOUR: 'it returns false'. Refute it at one input. -/
def natDivisionWrong : ChangeSpec := { name := "natDivision", fn := fun _ => fun
  | [d1, d2] => { results := [.lit (.bool false)], args := [d1, d2] }
  | _ => none }
def NatDivisionWrongFalsely : Prop := natDivisionRow.holds Try.pinned (OpenSpec.ofChange natDivisionWrong)

/-- 'fluxionlaw01.NatRing': WHATEVER THE INPUT: true; the input reads as it did. -/
def natRingSpec : ChangeSpec := { name := "natRing", fn := fun _ => fun
  | [d1, d2, d3] => { results := [.lit (.bool true)], args := [d1, d2, d3] }
  | _ => none }
def natRingRow : OpenClaim := { program := "ytceglknbonfdeaa", sum := "e75a0af94275b9369d42a1b9ec6640ef9d2ba80fed1111fd18e8fcc3fa65c2fd", func := "fluxion/fluxionlaw01.NatRing", spec := "natRing", apart := false }
def NatRingSaid : Prop := natRingRow.holds Try.pinned (OpenSpec.ofChange natRingSpec)

/-- ITS FALSE NEIGHBOUR: 'it returns false'. Refute it at one input. -/
def natRingWrong : ChangeSpec := { name := "natRing", fn := fun _ => fun
  | [d1, d2, d3] => { results := [.lit (.bool false)], args := [d1, d2, d3] }
  | _ => none }
def NatRingWrongFalsely : Prop := natRingRow.holds Try.pinned (OpenSpec.ofChange natRingWrong)

/-- 'fluxionlaw01.NatPowers': WHATEVER THE INPUT: true; the input reads as it did. -/
def natPowersSpec : ChangeSpec := { name := "natPowers", fn := fun _ => fun
  | [d1, d2] => { results := [.lit (.bool true)], args := [d1, d2] }
  | _ => none }
def natPowersRow : OpenClaim := { program := "ytceglknbonfdeaa", sum := "e75a0af94275b9369d42a1b9ec6640ef9d2ba80fed1111fd18e8fcc3fa65c2fd", func := "fluxion/fluxionlaw01.NatPowers", spec := "natPowers", apart := false }
def NatPowersSaid : Prop := natPowersRow.holds Try.pinned (OpenSpec.ofChange natPowersSpec)

/-- ITS FALSE NEIGHBOUR: 'it returns false'. Refute it at one input. -/
def natPowersWrong : ChangeSpec := { name := "natPowers", fn := fun _ => fun
  | [d1, d2] => { results := [.lit (.bool false)], args := [d1, d2] }
  | _ => none }
def NatPowersWrongFalsely : Prop := natPowersRow.holds Try.pinned (OpenSpec.ofChange natPowersWrong)

/-- 'fluxionlaw01.NatExponents': WHATEVER THE INPUT: true; the input reads as it did. -/
def natExponentsSpec : ChangeSpec := { name := "natExponents", fn := fun _ => fun
  | [d1, d2, d3] => { results := [.lit (.bool true)], args := [d1, d2, d3] }
  | _ => none }
def natExponentsRow : OpenClaim := { program := "ytceglknbonfdeaa", sum := "e75a0af94275b9369d42a1b9ec6640ef9d2ba80fed1111fd18e8fcc3fa65c2fd", func := "fluxion/fluxionlaw01.NatExponents", spec := "natExponents", apart := false }
def NatExponentsSaid : Prop := natExponentsRow.holds Try.pinned (OpenSpec.ofChange natExponentsSpec)

/-- ITS FALSE NEIGHBOUR: 'it returns false'. Refute it at one input. -/
def natExponentsWrong : ChangeSpec := { name := "natExponents", fn := fun _ => fun
  | [d1, d2, d3] => { results := [.lit (.bool false)], args := [d1, d2, d3] }
  | _ => none }
def NatExponentsWrongFalsely : Prop := natExponentsRow.holds Try.pinned (OpenSpec.ofChange natExponentsWrong)

/-- 'fluxionlaw01.NatOwn': WHATEVER THE INPUT: true; the input reads as it did. -/
def natOwnSpec : ChangeSpec := { name := "natOwn", fn := fun _ => fun
  | [d1, d2] => { results := [.lit (.bool true)], args := [d1, d2] }
  | _ => none }
def natOwnRow : OpenClaim := { program := "ytceglknbonfdeaa", sum := "e75a0af94275b9369d42a1b9ec6640ef9d2ba80fed1111fd18e8fcc3fa65c2fd", func := "fluxion/fluxionlaw01.NatOwn", spec := "natOwn", apart := false }
def NatOwnSaid : Prop := natOwnRow.holds Try.pinned (OpenSpec.ofChange natOwnSpec)

/-- ITS FALSE NEIGHBOUR: 'it returns false'. Refute it at one input. -/
def natOwnWrong : ChangeSpec := { name := "natOwn", fn := fun _ => fun
  | [d1, d2] => { results := [.lit (.bool false)], args := [d1, d2] }
  | _ => none }
def NatOwnWrongFalsely : Prop := natOwnRow.holds Try.pinned (OpenSpec.ofChange natOwnWrong)

/- THE SECOND FORM. 'bulk': how many values and letters a reading holds, each counted each time it is reached (what is shared counts as often as it is met; a slice's spare places count too). A statement '..UptoSaid' is the law's where the arguments, and the package variables that the reading takes, are together of bulk at most 1048576: NARROWER than '..Said'. Prove '..Said' where nothing that the law and all that it calls make is longer than what came in: it says more and counts as full. Else prove '..UptoSaid'. A law counts once. -/
mutual
def uptoBulk {H : Type} : DataW H → Nat
  | .lit (.string bytes) => bytes.length + 1
  | .lit _ => 1
  | .nil => 1
  | .ptr d => uptoBulk d + 1
  | .slice elems spare => uptoBulkAll elems + uptoBulkAll spare + 1
  | .agg parts => uptoBulkAll parts + 1
  | .iface _ d => uptoBulk d + 1
  | .map entries => uptoBulkEntries entries + 1
  | .held _ => 1
def uptoBulkAll {H : Type} : List (DataW H) → Nat
  | [] => 0
  | d :: r => uptoBulk d + uptoBulkAll r
def uptoBulkEntries {H : Type} : List (Lit × DataW H) → Nat
  | [] => 0
  | x :: r => uptoBulkEntry x + uptoBulkEntries r
def uptoBulkEntry {H : Type} : Lit × DataW H → Nat
  | (.string bytes, d) => bytes.length + uptoBulk d + 1
  | (_, d) => uptoBulk d + 1
 end
def uptoSmall : (H : Type) → List (DataW H) → Bool := fun _ ds => decide (uptoBulkAll ds ≤ 1048576)
def OpenSpec.upto (s : _root_.Go.ChangeSpec) : _root_.Go.OpenSpec := { _root_.Go.OpenSpec.ofChange s with cond := some uptoSmall }

/-- 'fluxionlaw01.NatQuotients', WHERE WHAT IT READS IS OF BULK AT MOST 1048576: true; the input reads as it did. -/
def natQuotientsUptoRow : OpenClaim := { program := "ytceglknbonfdeaa", sum := "e75a0af94275b9369d42a1b9ec6640ef9d2ba80fed1111fd18e8fcc3fa65c2fd", func := "fluxion/fluxionlaw01.NatQuotients", spec := "natQuotients", apart := false, narrowed := true }
def NatQuotientsUptoSaid : Prop := natQuotientsUptoRow.holds Try.pinned (OpenSpec.upto natQuotientsSpec)

/-- 'fluxionlaw01.NatDivisors', WHERE WHAT IT READS IS OF BULK AT MOST 1048576: true; the input reads as it did. -/
def natDivisorsUptoRow : OpenClaim := { program := "ytceglknbonfdeaa", sum := "e75a0af94275b9369d42a1b9ec6640ef9d2ba80fed1111fd18e8fcc3fa65c2fd", func := "fluxion/fluxionlaw01.NatDivisors", spec := "natDivisors", apart := false, narrowed := true }
def NatDivisorsUptoSaid : Prop := natDivisorsUptoRow.holds Try.pinned (OpenSpec.upto natDivisorsSpec)

/-- 'fluxionlaw01.NatRoots', WHERE WHAT IT READS IS OF BULK AT MOST 1048576: true; the input reads as it did. -/
def natRootsUptoRow : OpenClaim := { program := "ytceglknbonfdeaa", sum := "e75a0af94275b9369d42a1b9ec6640ef9d2ba80fed1111fd18e8fcc3fa65c2fd", func := "fluxion/fluxionlaw01.NatRoots", spec := "natRoots", apart := false, narrowed := true }
def NatRootsUptoSaid : Prop := natRootsUptoRow.holds Try.pinned (OpenSpec.upto natRootsSpec)

/-- 'fluxionlaw01.NatTexts', WHERE WHAT IT READS IS OF BULK AT MOST 1048576: true; the input reads as it did. -/
def natTextsUptoRow : OpenClaim := { program := "ytceglknbonfdeaa", sum := "e75a0af94275b9369d42a1b9ec6640ef9d2ba80fed1111fd18e8fcc3fa65c2fd", func := "fluxion/fluxionlaw01.NatTexts", spec := "natTexts", apart := false, narrowed := true }
def NatTextsUptoSaid : Prop := natTextsUptoRow.holds Try.pinned (OpenSpec.upto natTextsSpec)

/-- 'fluxionlaw01.NatProducts', WHERE WHAT IT READS IS OF BULK AT MOST 1048576: true; the input reads as it did. -/
def natProductsUptoRow : OpenClaim := { program := "ytceglknbonfdeaa", sum := "e75a0af94275b9369d42a1b9ec6640ef9d2ba80fed1111fd18e8fcc3fa65c2fd", func := "fluxion/fluxionlaw01.NatProducts", spec := "natProducts", apart := false, narrowed := true }
def NatProductsUptoSaid : Prop := natProductsUptoRow.holds Try.pinned (OpenSpec.upto natProductsSpec)

/-- 'fluxionlaw01.NatCoprime', WHERE WHAT IT READS IS OF BULK AT MOST 1048576: true; the input reads as it did. -/
def natCoprimeUptoRow : OpenClaim := { program := "ytceglknbonfdeaa", sum := "e75a0af94275b9369d42a1b9ec6640ef9d2ba80fed1111fd18e8fcc3fa65c2fd", func := "fluxion/fluxionlaw01.NatCoprime", spec := "natCoprime", apart := false, narrowed := true }
def NatCoprimeUptoSaid : Prop := natCoprimeUptoRow.holds Try.pinned (OpenSpec.upto natCoprimeSpec)

/-- 'fluxionlaw01.NatReads', WHERE WHAT IT READS IS OF BULK AT MOST 1048576: true; the input reads as it did. -/
def natReadsUptoRow : OpenClaim := { program := "ytceglknbonfdeaa", sum := "e75a0af94275b9369d42a1b9ec6640ef9d2ba80fed1111fd18e8fcc3fa65c2fd", func := "fluxion/fluxionlaw01.NatReads", spec := "natReads", apart := false, narrowed := true }
def NatReadsUptoSaid : Prop := natReadsUptoRow.holds Try.pinned (OpenSpec.upto natReadsSpec)

/-- 'fluxionlaw01.NatForms', WHERE WHAT IT READS IS OF BULK AT MOST 1048576: true; the input reads as it did. -/
def natFormsUptoRow : OpenClaim := { program := "ytceglknbonfdeaa", sum := "e75a0af94275b9369d42a1b9ec6640ef9d2ba80fed1111fd18e8fcc3fa65c2fd", func := "fluxion/fluxionlaw01.NatForms", spec := "natForms", unfollowed := true, recurses := true, apart := false, narrowed := true }
def NatFormsUptoSaid : Prop := natFormsUptoRow.holds Try.pinned (OpenSpec.upto natFormsSpec)

/-- 'fluxionlaw01.NatBits', WHERE WHAT IT READS IS OF BULK AT MOST 1048576: true; the input reads as it did. -/
def natBitsUptoRow : OpenClaim := { program := "ytceglknbonfdeaa", sum := "e75a0af94275b9369d42a1b9ec6640ef9d2ba80fed1111fd18e8fcc3fa65c2fd", func := "fluxion/fluxionlaw01.NatBits", spec := "natBits", apart := false, narrowed := true }
def NatBitsUptoSaid : Prop := natBitsUptoRow.holds Try.pinned (OpenSpec.upto natBitsSpec)

/-- 'fluxionlaw01.NatSums', WHERE WHAT IT READS IS OF BULK AT MOST 1048576: true; the input reads as it did. -/
def natSumsUptoRow : OpenClaim := { program := "ytceglknbonfdeaa", sum := "e75a0af94275b9369d42a1b9ec6640ef9d2ba80fed1111fd18e8fcc3fa65c2fd", func := "fluxion/fluxionlaw01.NatSums", spec := "natSums", apart := false, narrowed := true }
def NatSumsUptoSaid : Prop := natSumsUptoRow.holds Try.pinned (OpenSpec.upto natSumsSpec)

/-- 'fluxionlaw01.NatSquare', WHERE WHAT IT READS IS OF BULK AT MOST 1048576: true; the input reads as it did. -/
def natSquareUptoRow : OpenClaim := { program := "ytceglknbonfdeaa", sum := "e75a0af94275b9369d42a1b9ec6640ef9d2ba80fed1111fd18e8fcc3fa65c2fd", func := "fluxion/fluxionlaw01.NatSquare", spec := "natSquare", apart := false, narrowed := true }
def NatSquareUptoSaid : Prop := natSquareUptoRow.holds Try.pinned (OpenSpec.upto natSquareSpec)

/-- 'fluxionlaw01.NatDivision', WHERE WHAT IT READS IS OF BULK AT MOST 1048576: true; the input reads as it did. -/
def natDivisionUptoRow : OpenClaim := { program := "ytceglknbonfdeaa", sum := "e75a0af94275b9369d42a1b9ec6640ef9d2ba80fed1111fd18e8fcc3fa65c2fd", func := "fluxion/fluxionlaw01.NatDivision", spec := "natDivision", apart := false, narrowed := true }
def NatDivisionUptoSaid : Prop := natDivisionUptoRow.holds Try.pinned (OpenSpec.upto natDivisionSpec)

/-- 'fluxionlaw01.NatRing', WHERE WHAT IT READS IS OF BULK AT MOST 1048576: true; the input reads as it did. -/
def natRingUptoRow : OpenClaim := { program := "ytceglknbonfdeaa", sum := "e75a0af94275b9369d42a1b9ec6640ef9d2ba80fed1111fd18e8fcc3fa65c2fd", func := "fluxion/fluxionlaw01.NatRing", spec := "natRing", apart := false, narrowed := true }
def NatRingUptoSaid : Prop := natRingUptoRow.holds Try.pinned (OpenSpec.upto natRingSpec)

/-- 'fluxionlaw01.NatPowers', WHERE WHAT IT READS IS OF BULK AT MOST 1048576: true; the input reads as it did. -/
def natPowersUptoRow : OpenClaim := { program := "ytceglknbonfdeaa", sum := "e75a0af94275b9369d42a1b9ec6640ef9d2ba80fed1111fd18e8fcc3fa65c2fd", func := "fluxion/fluxionlaw01.NatPowers", spec := "natPowers", apart := false, narrowed := true }
def NatPowersUptoSaid : Prop := natPowersUptoRow.holds Try.pinned (OpenSpec.upto natPowersSpec)

/-- 'fluxionlaw01.NatExponents', WHERE WHAT IT READS IS OF BULK AT MOST 1048576: true; the input reads as it did. -/
def natExponentsUptoRow : OpenClaim := { program := "ytceglknbonfdeaa", sum := "e75a0af94275b9369d42a1b9ec6640ef9d2ba80fed1111fd18e8fcc3fa65c2fd", func := "fluxion/fluxionlaw01.NatExponents", spec := "natExponents", apart := false, narrowed := true }
def NatExponentsUptoSaid : Prop := natExponentsUptoRow.holds Try.pinned (OpenSpec.upto natExponentsSpec)

/-- 'fluxionlaw01.NatOwn', WHERE WHAT IT READS IS OF BULK AT MOST 1048576: true; the input reads as it did. -/
def natOwnUptoRow : OpenClaim := { program := "ytceglknbonfdeaa", sum := "e75a0af94275b9369d42a1b9ec6640ef9d2ba80fed1111fd18e8fcc3fa65c2fd", func := "fluxion/fluxionlaw01.NatOwn", spec := "natOwn", apart := false, narrowed := true }
def NatOwnUptoSaid : Prop := natOwnUptoRow.holds Try.pinned (OpenSpec.upto natOwnSpec)

end Rows
end Go.Proofs.Ytceglknbonfdeaa
