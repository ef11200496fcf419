/-
  No cell of these rows narrows 'for every input' (looked for: loops, veiled, ifaces, maps, wideKeys, modest, calm, conditions, laid).
  DERIVED. THE GIVEN ROWS OF THIS SEAT. 13 by the template 'for every input the law returns true; each argument reads behind the call as it read before'; 0 by the template 'total and deterministic' (their statements: YtfljjdlgdpjejaaTotals.lean).
  GIVEN WITH THE SEED: the statements are not yours to turn. If you find one false, say at which input.
  Laid BY PROGRAM, IN A SANDBOX (cutbox-rows.mjs): the forced cells as the released guide's own fill.sh prints them over the translation 63da6f6d4b2bed11… (all of the seat's roots in one cut). By AI agents, Wed Nov 11 2026. No macro, syntax, notation, axiom, sorry.
-/
import Derived.Test.YtfljjdlgdpjejaaChecked
import GoSem.Claim
import GoSem.ClaimJoined
import GoSem.ClaimMapViews
import Derived.JoinedTies
import Derived.KernelRfl
namespace Go.Proofs.Ytfljjdlgdpjejaa
/- THE CELL 'sum', in the pinned program and in every row, IS THE sha256 OF THE DUMP (.gsa) THAT YtfljjdlgdpjejaaProg.lean LOADS. Nothing in Lean hashes anything: it is a label: what it is worth is what the hold of that sum in a sandbox is worth. -/
noncomputable def Try.pinned : Pinned := { name := "ytfljjdlgdpjejaa", sum := "63da6f6d4b2bed11e08565ef5c09adc029f2657fe8727e437fcffd2ed5b79c34", checked := Try.checked }
namespace Rows
def none {H : Type} : Left H := { results := [], args := [] }

/-- 'laws.FnExactContains': WHATEVER THE INPUT: true; the input reads as it did. -/
def fnExactContainsSpec : ChangeSpec := { name := "fnExactContains", fn := fun _ => fun
  | [d1, d2] => { results := [.lit (.bool true)], args := [d1, d2] }
  | _ => none }
def fnExactContainsRow : OpenClaim := { program := "ytfljjdlgdpjejaa", sum := "63da6f6d4b2bed11e08565ef5c09adc029f2657fe8727e437fcffd2ed5b79c34", func := "loop.example/g00595/laws.FnExactContains", spec := "fnExactContains", apart := false }
def FnExactContainsSaid : Prop := fnExactContainsRow.holds Try.pinned (OpenSpec.ofChange fnExactContainsSpec)

/-- ITS FALSE NEIGHBOUR: 'it returns false'. Refute it at one input. -/
def fnExactContainsWrong : ChangeSpec := { name := "fnExactContains", fn := fun _ => fun
  | [d1, d2] => { results := [.lit (.bool false)], args := [d1, d2] }
  | _ => none }
def FnExactContainsWrongFalsely : Prop := fnExactContainsRow.holds Try.pinned (OpenSpec.ofChange fnExactContainsWrong)

/-- 'laws.FnExactGenusOf': WHATEVER THE INPUT: true; the input reads as it did. -/
def fnExactGenusOfSpec : ChangeSpec := { name := "fnExactGenusOf", fn := fun _ => fun
  | [d] => { results := [.lit (.bool true)], args := [d] }
  | _ => none }
def fnExactGenusOfRow : OpenClaim := { program := "ytfljjdlgdpjejaa", sum := "63da6f6d4b2bed11e08565ef5c09adc029f2657fe8727e437fcffd2ed5b79c34", func := "loop.example/g00595/laws.FnExactGenusOf", spec := "fnExactGenusOf", apart := false }
def FnExactGenusOfSaid : Prop := fnExactGenusOfRow.holds Try.pinned (OpenSpec.ofChange fnExactGenusOfSpec)

/-- ITS FALSE NEIGHBOUR: 'it returns false'. Refute it at one input. -/
def fnExactGenusOfWrong : ChangeSpec := { name := "fnExactGenusOf", fn := fun _ => fun
  | [d] => { results := [.lit (.bool false)], args := [d] }
  | _ => none }
def FnExactGenusOfWrongFalsely : Prop := fnExactGenusOfRow.holds Try.pinned (OpenSpec.ofChange fnExactGenusOfWrong)

/-- 'laws.FnExactFrobeniusOf': WHATEVER THE INPUT: true; the input reads as it did. -/
def fnExactFrobeniusOfSpec : ChangeSpec := { name := "fnExactFrobeniusOf", fn := fun _ => fun
  | [d] => { results := [.lit (.bool true)], args := [d] }
  | _ => none }
def fnExactFrobeniusOfRow : OpenClaim := { program := "ytfljjdlgdpjejaa", sum := "63da6f6d4b2bed11e08565ef5c09adc029f2657fe8727e437fcffd2ed5b79c34", func := "loop.example/g00595/laws.FnExactFrobeniusOf", spec := "fnExactFrobeniusOf", apart := false }
def FnExactFrobeniusOfSaid : Prop := fnExactFrobeniusOfRow.holds Try.pinned (OpenSpec.ofChange fnExactFrobeniusOfSpec)

/-- ITS FALSE NEIGHBOUR: 'it returns false'. Refute it at one input. -/
def fnExactFrobeniusOfWrong : ChangeSpec := { name := "fnExactFrobeniusOf", fn := fun _ => fun
  | [d] => { results := [.lit (.bool false)], args := [d] }
  | _ => none }
def FnExactFrobeniusOfWrongFalsely : Prop := fnExactFrobeniusOfRow.holds Try.pinned (OpenSpec.ofChange fnExactFrobeniusOfWrong)

/-- 'laws.FnExactIndexOfElement': WHATEVER THE INPUT: true; the input reads as it did. -/
def fnExactIndexOfElementSpec : ChangeSpec := { name := "fnExactIndexOfElement", fn := fun _ => fun
  | [d1, d2] => { results := [.lit (.bool true)], args := [d1, d2] }
  | _ => none }
def fnExactIndexOfElementRow : OpenClaim := { program := "ytfljjdlgdpjejaa", sum := "63da6f6d4b2bed11e08565ef5c09adc029f2657fe8727e437fcffd2ed5b79c34", func := "loop.example/g00595/laws.FnExactIndexOfElement", spec := "fnExactIndexOfElement", apart := false }
def FnExactIndexOfElementSaid : Prop := fnExactIndexOfElementRow.holds Try.pinned (OpenSpec.ofChange fnExactIndexOfElementSpec)

/-- ITS FALSE NEIGHBOUR: 'it returns false'. Refute it at one input. -/
def fnExactIndexOfElementWrong : ChangeSpec := { name := "fnExactIndexOfElement", fn := fun _ => fun
  | [d1, d2] => { results := [.lit (.bool false)], args := [d1, d2] }
  | _ => none }
def FnExactIndexOfElementWrongFalsely : Prop := fnExactIndexOfElementRow.holds Try.pinned (OpenSpec.ofChange fnExactIndexOfElementWrong)

/-- 'laws.FnExactConductorOf': WHATEVER THE INPUT: true; the input reads as it did. -/
def fnExactConductorOfSpec : ChangeSpec := { name := "fnExactConductorOf", fn := fun _ => fun
  | [d] => { results := [.lit (.bool true)], args := [d] }
  | _ => none }
def fnExactConductorOfRow : OpenClaim := { program := "ytfljjdlgdpjejaa", sum := "63da6f6d4b2bed11e08565ef5c09adc029f2657fe8727e437fcffd2ed5b79c34", func := "loop.example/g00595/laws.FnExactConductorOf", spec := "fnExactConductorOf", apart := false }
def FnExactConductorOfSaid : Prop := fnExactConductorOfRow.holds Try.pinned (OpenSpec.ofChange fnExactConductorOfSpec)

/-- ITS FALSE NEIGHBOUR: 'it returns false'. Refute it at one input. -/
def fnExactConductorOfWrong : ChangeSpec := { name := "fnExactConductorOf", fn := fun _ => fun
  | [d] => { results := [.lit (.bool false)], args := [d] }
  | _ => none }
def FnExactConductorOfWrongFalsely : Prop := fnExactConductorOfRow.holds Try.pinned (OpenSpec.ofChange fnExactConductorOfWrong)

/-- 'laws.FnExactGaps': WHATEVER THE INPUT: true; the input reads as it did. -/
def fnExactGapsSpec : ChangeSpec := { name := "fnExactGaps", fn := fun _ => fun
  | [d] => { results := [.lit (.bool true)], args := [d] }
  | _ => none }
def fnExactGapsRow : OpenClaim := { program := "ytfljjdlgdpjejaa", sum := "63da6f6d4b2bed11e08565ef5c09adc029f2657fe8727e437fcffd2ed5b79c34", func := "loop.example/g00595/laws.FnExactGaps", spec := "fnExactGaps", apart := false }
def FnExactGapsSaid : Prop := fnExactGapsRow.holds Try.pinned (OpenSpec.ofChange fnExactGapsSpec)

/-- ITS FALSE NEIGHBOUR: 'it returns false'. Refute it at one input. -/
def fnExactGapsWrong : ChangeSpec := { name := "fnExactGaps", fn := fun _ => fun
  | [d] => { results := [.lit (.bool false)], args := [d] }
  | _ => none }
def FnExactGapsWrongFalsely : Prop := fnExactGapsRow.holds Try.pinned (OpenSpec.ofChange fnExactGapsWrong)

/-- 'laws.FnExactAperySet': WHATEVER THE INPUT: true; the input reads as it did. -/
def fnExactAperySetSpec : ChangeSpec := { name := "fnExactAperySet", fn := fun _ => fun
  | [d1, d2] => { results := [.lit (.bool true)], args := [d1, d2] }
  | _ => none }
def fnExactAperySetRow : OpenClaim := { program := "ytfljjdlgdpjejaa", sum := "63da6f6d4b2bed11e08565ef5c09adc029f2657fe8727e437fcffd2ed5b79c34", func := "loop.example/g00595/laws.FnExactAperySet", spec := "fnExactAperySet", apart := false }
def FnExactAperySetSaid : Prop := fnExactAperySetRow.holds Try.pinned (OpenSpec.ofChange fnExactAperySetSpec)

/-- ITS FALSE NEIGHBOUR: 'it returns false'. Refute it at one input. -/
def fnExactAperySetWrong : ChangeSpec := { name := "fnExactAperySet", fn := fun _ => fun
  | [d1, d2] => { results := [.lit (.bool false)], args := [d1, d2] }
  | _ => none }
def FnExactAperySetWrongFalsely : Prop := fnExactAperySetRow.holds Try.pinned (OpenSpec.ofChange fnExactAperySetWrong)

/-- 'laws.FnExactGenusByApery': WHATEVER THE INPUT: true; the input reads as it did. -/
def fnExactGenusByAperySpec : ChangeSpec := { name := "fnExactGenusByApery", fn := fun _ => fun
  | [d1, d2] => { results := [.lit (.bool true)], args := [d1, d2] }
  | _ => none }
def fnExactGenusByAperyRow : OpenClaim := { program := "ytfljjdlgdpjejaa", sum := "63da6f6d4b2bed11e08565ef5c09adc029f2657fe8727e437fcffd2ed5b79c34", func := "loop.example/g00595/laws.FnExactGenusByApery", spec := "fnExactGenusByApery", apart := false }
def FnExactGenusByAperySaid : Prop := fnExactGenusByAperyRow.holds Try.pinned (OpenSpec.ofChange fnExactGenusByAperySpec)

/-- ITS FALSE NEIGHBOUR: 'it returns false'. Refute it at one input. -/
def fnExactGenusByAperyWrong : ChangeSpec := { name := "fnExactGenusByApery", fn := fun _ => fun
  | [d1, d2] => { results := [.lit (.bool false)], args := [d1, d2] }
  | _ => none }
def FnExactGenusByAperyWrongFalsely : Prop := fnExactGenusByAperyRow.holds Try.pinned (OpenSpec.ofChange fnExactGenusByAperyWrong)

/-- 'laws.FnExactElementAt': WHATEVER THE INPUT: true; the input reads as it did. -/
def fnExactElementAtSpec : ChangeSpec := { name := "fnExactElementAt", fn := fun _ => fun
  | [d1, d2] => { results := [.lit (.bool true)], args := [d1, d2] }
  | _ => none }
def fnExactElementAtRow : OpenClaim := { program := "ytfljjdlgdpjejaa", sum := "63da6f6d4b2bed11e08565ef5c09adc029f2657fe8727e437fcffd2ed5b79c34", func := "loop.example/g00595/laws.FnExactElementAt", spec := "fnExactElementAt", apart := false }
def FnExactElementAtSaid : Prop := fnExactElementAtRow.holds Try.pinned (OpenSpec.ofChange fnExactElementAtSpec)

/-- ITS FALSE NEIGHBOUR: 'it returns false'. Refute it at one input. -/
def fnExactElementAtWrong : ChangeSpec := { name := "fnExactElementAt", fn := fun _ => fun
  | [d1, d2] => { results := [.lit (.bool false)], args := [d1, d2] }
  | _ => none }
def FnExactElementAtWrongFalsely : Prop := fnExactElementAtRow.holds Try.pinned (OpenSpec.ofChange fnExactElementAtWrong)

/-- 'laws.FnExactFrobeniusByApery': WHATEVER THE INPUT: true; the input reads as it did. -/
def fnExactFrobeniusByAperySpec : ChangeSpec := { name := "fnExactFrobeniusByApery", fn := fun _ => fun
  | [d1, d2] => { results := [.lit (.bool true)], args := [d1, d2] }
  | _ => none }
def fnExactFrobeniusByAperyRow : OpenClaim := { program := "ytfljjdlgdpjejaa", sum := "63da6f6d4b2bed11e08565ef5c09adc029f2657fe8727e437fcffd2ed5b79c34", func := "loop.example/g00595/laws.FnExactFrobeniusByApery", spec := "fnExactFrobeniusByApery", apart := false }
def FnExactFrobeniusByAperySaid : Prop := fnExactFrobeniusByAperyRow.holds Try.pinned (OpenSpec.ofChange fnExactFrobeniusByAperySpec)

/-- ITS FALSE NEIGHBOUR: 'it returns false'. Refute it at one input. -/
def fnExactFrobeniusByAperyWrong : ChangeSpec := { name := "fnExactFrobeniusByApery", fn := fun _ => fun
  | [d1, d2] => { results := [.lit (.bool false)], args := [d1, d2] }
  | _ => none }
def FnExactFrobeniusByAperyWrongFalsely : Prop := fnExactFrobeniusByAperyRow.holds Try.pinned (OpenSpec.ofChange fnExactFrobeniusByAperyWrong)

/-- 'laws.FnExactIsSymmetric': WHATEVER THE INPUT: true; the input reads as it did. -/
def fnExactIsSymmetricSpec : ChangeSpec := { name := "fnExactIsSymmetric", fn := fun _ => fun
  | [d] => { results := [.lit (.bool true)], args := [d] }
  | _ => none }
def fnExactIsSymmetricRow : OpenClaim := { program := "ytfljjdlgdpjejaa", sum := "63da6f6d4b2bed11e08565ef5c09adc029f2657fe8727e437fcffd2ed5b79c34", func := "loop.example/g00595/laws.FnExactIsSymmetric", spec := "fnExactIsSymmetric", apart := false }
def FnExactIsSymmetricSaid : Prop := fnExactIsSymmetricRow.holds Try.pinned (OpenSpec.ofChange fnExactIsSymmetricSpec)

/-- ITS FALSE NEIGHBOUR: 'it returns false'. Refute it at one input. -/
def fnExactIsSymmetricWrong : ChangeSpec := { name := "fnExactIsSymmetric", fn := fun _ => fun
  | [d] => { results := [.lit (.bool false)], args := [d] }
  | _ => none }
def FnExactIsSymmetricWrongFalsely : Prop := fnExactIsSymmetricRow.holds Try.pinned (OpenSpec.ofChange fnExactIsSymmetricWrong)

/-- 'laws.FnExactIsPseudoSymmetric': WHATEVER THE INPUT: true; the input reads as it did. -/
def fnExactIsPseudoSymmetricSpec : ChangeSpec := { name := "fnExactIsPseudoSymmetric", fn := fun _ => fun
  | [d] => { results := [.lit (.bool true)], args := [d] }
  | _ => none }
def fnExactIsPseudoSymmetricRow : OpenClaim := { program := "ytfljjdlgdpjejaa", sum := "63da6f6d4b2bed11e08565ef5c09adc029f2657fe8727e437fcffd2ed5b79c34", func := "loop.example/g00595/laws.FnExactIsPseudoSymmetric", spec := "fnExactIsPseudoSymmetric", apart := false }
def FnExactIsPseudoSymmetricSaid : Prop := fnExactIsPseudoSymmetricRow.holds Try.pinned (OpenSpec.ofChange fnExactIsPseudoSymmetricSpec)

/-- ITS FALSE NEIGHBOUR: 'it returns false'. Refute it at one input. -/
def fnExactIsPseudoSymmetricWrong : ChangeSpec := { name := "fnExactIsPseudoSymmetric", fn := fun _ => fun
  | [d] => { results := [.lit (.bool false)], args := [d] }
  | _ => none }
def FnExactIsPseudoSymmetricWrongFalsely : Prop := fnExactIsPseudoSymmetricRow.holds Try.pinned (OpenSpec.ofChange fnExactIsPseudoSymmetricWrong)

/-- 'laws.FnExactIsIrreducible': WHATEVER THE INPUT: true; the input reads as it did. -/
def fnExactIsIrreducibleSpec : ChangeSpec := { name := "fnExactIsIrreducible", fn := fun _ => fun
  | [d] => { results := [.lit (.bool true)], args := [d] }
  | _ => none }
def fnExactIsIrreducibleRow : OpenClaim := { program := "ytfljjdlgdpjejaa", sum := "63da6f6d4b2bed11e08565ef5c09adc029f2657fe8727e437fcffd2ed5b79c34", func := "loop.example/g00595/laws.FnExactIsIrreducible", spec := "fnExactIsIrreducible", apart := false }
def FnExactIsIrreducibleSaid : Prop := fnExactIsIrreducibleRow.holds Try.pinned (OpenSpec.ofChange fnExactIsIrreducibleSpec)

/-- ITS FALSE NEIGHBOUR: 'it returns false'. Refute it at one input. -/
def fnExactIsIrreducibleWrong : ChangeSpec := { name := "fnExactIsIrreducible", fn := fun _ => fun
  | [d] => { results := [.lit (.bool false)], args := [d] }
  | _ => none }
def FnExactIsIrreducibleWrongFalsely : Prop := fnExactIsIrreducibleRow.holds Try.pinned (OpenSpec.ofChange fnExactIsIrreducibleWrong)

/- THE SECOND FORM. 'bulk': how many values and letters a reading holds, each counted each time it is reached (what is shared counts as often as it is met; a slice's spare places count too). A statement '..UptoSaid' is the law's where the arguments, and the package variables that the reading takes, are together of bulk at most 1048576: NARROWER than '..Said'. Prove '..Said' where nothing that the law and all that it calls make is longer than what came in: it says more and counts as full. Else prove '..UptoSaid'. A law counts once. -/
mutual
def uptoBulk {H : Type} : DataW H → Nat
  | .lit (.string bytes) => bytes.length + 1
  | .lit _ => 1
  | .nil => 1
  | .ptr d => uptoBulk d + 1
  | .slice elems spare => uptoBulkAll elems + uptoBulkAll spare + 1
  | .agg parts => uptoBulkAll parts + 1
  | .iface _ d => uptoBulk d + 1
  | .map entries => uptoBulkEntries entries + 1
  | .held _ => 1
def uptoBulkAll {H : Type} : List (DataW H) → Nat
  | [] => 0
  | d :: r => uptoBulk d + uptoBulkAll r
def uptoBulkEntries {H : Type} : List (Lit × DataW H) → Nat
  | [] => 0
  | x :: r => uptoBulkEntry x + uptoBulkEntries r
def uptoBulkEntry {H : Type} : Lit × DataW H → Nat
  | (.string bytes, d) => bytes.length + uptoBulk d + 1
  | (_, d) => uptoBulk d + 1
 end
def uptoSmall : (H : Type) → List (DataW H) → Bool := fun _ ds => decide (uptoBulkAll ds ≤ 1048576)
def OpenSpec.upto (s : _root_.Go.ChangeSpec) : _root_.Go.OpenSpec := { _root_.Go.OpenSpec.ofChange s with cond := some uptoSmall }

/-- 'laws.FnExactContains', WHERE WHAT IT READS IS OF BULK AT MOST 1048576: true; the input reads as it did. -/
def fnExactContainsUptoRow : OpenClaim := { program := "ytfljjdlgdpjejaa", sum := "63da6f6d4b2bed11e08565ef5c09adc029f2657fe8727e437fcffd2ed5b79c34", func := "loop.example/g00595/laws.FnExactContains", spec := "fnExactContains", apart := false, narrowed := true }
def FnExactContainsUptoSaid : Prop := fnExactContainsUptoRow.holds Try.pinned (OpenSpec.upto fnExactContainsSpec)

/-- 'laws.FnExactGenusOf', WHERE WHAT IT READS IS OF BULK AT MOST 1048576: true; the input reads as it did. -/
def fnExactGenusOfUptoRow : OpenClaim := { program := "ytfljjdlgdpjejaa", sum := "63da6f6d4b2bed11e08565ef5c09adc029f2657fe8727e437fcffd2ed5b79c34", func := "loop.example/g00595/laws.FnExactGenusOf", spec := "fnExactGenusOf", apart := false, narrowed := true }
def FnExactGenusOfUptoSaid : Prop := fnExactGenusOfUptoRow.holds Try.pinned (OpenSpec.upto fnExactGenusOfSpec)

/-- 'laws.FnExactFrobeniusOf', WHERE WHAT IT READS IS OF BULK AT MOST 1048576: true; the input reads as it did. -/
def fnExactFrobeniusOfUptoRow : OpenClaim := { program := "ytfljjdlgdpjejaa", sum := "63da6f6d4b2bed11e08565ef5c09adc029f2657fe8727e437fcffd2ed5b79c34", func := "loop.example/g00595/laws.FnExactFrobeniusOf", spec := "fnExactFrobeniusOf", apart := false, narrowed := true }
def FnExactFrobeniusOfUptoSaid : Prop := fnExactFrobeniusOfUptoRow.holds Try.pinned (OpenSpec.upto fnExactFrobeniusOfSpec)

/-- 'laws.FnExactIndexOfElement', WHERE WHAT IT READS IS OF BULK AT MOST 1048576: true; the input reads as it did. -/
def fnExactIndexOfElementUptoRow : OpenClaim := { program := "ytfljjdlgdpjejaa", sum := "63da6f6d4b2bed11e08565ef5c09adc029f2657fe8727e437fcffd2ed5b79c34", func := "loop.example/g00595/laws.FnExactIndexOfElement", spec := "fnExactIndexOfElement", apart := false, narrowed := true }
def FnExactIndexOfElementUptoSaid : Prop := fnExactIndexOfElementUptoRow.holds Try.pinned (OpenSpec.upto fnExactIndexOfElementSpec)

/-- 'laws.FnExactConductorOf', WHERE WHAT IT READS IS OF BULK AT MOST 1048576: true; the input reads as it did. -/
def fnExactConductorOfUptoRow : OpenClaim := { program := "ytfljjdlgdpjejaa", sum := "63da6f6d4b2bed11e08565ef5c09adc029f2657fe8727e437fcffd2ed5b79c34", func := "loop.example/g00595/laws.FnExactConductorOf", spec := "fnExactConductorOf", apart := false, narrowed := true }
def FnExactConductorOfUptoSaid : Prop := fnExactConductorOfUptoRow.holds Try.pinned (OpenSpec.upto fnExactConductorOfSpec)

/-- 'laws.FnExactGaps', WHERE WHAT IT READS IS OF BULK AT MOST 1048576: true; the input reads as it did. -/
def fnExactGapsUptoRow : OpenClaim := { program := "ytfljjdlgdpjejaa", sum := "63da6f6d4b2bed11e08565ef5c09adc029f2657fe8727e437fcffd2ed5b79c34", func := "loop.example/g00595/laws.FnExactGaps", spec := "fnExactGaps", apart := false, narrowed := true }
def FnExactGapsUptoSaid : Prop := fnExactGapsUptoRow.holds Try.pinned (OpenSpec.upto fnExactGapsSpec)

/-- 'laws.FnExactAperySet', WHERE WHAT IT READS IS OF BULK AT MOST 1048576: true; the input reads as it did. -/
def fnExactAperySetUptoRow : OpenClaim := { program := "ytfljjdlgdpjejaa", sum := "63da6f6d4b2bed11e08565ef5c09adc029f2657fe8727e437fcffd2ed5b79c34", func := "loop.example/g00595/laws.FnExactAperySet", spec := "fnExactAperySet", apart := false, narrowed := true }
def FnExactAperySetUptoSaid : Prop := fnExactAperySetUptoRow.holds Try.pinned (OpenSpec.upto fnExactAperySetSpec)

/-- 'laws.FnExactGenusByApery', WHERE WHAT IT READS IS OF BULK AT MOST 1048576: true; the input reads as it did. -/
def fnExactGenusByAperyUptoRow : OpenClaim := { program := "ytfljjdlgdpjejaa", sum := "63da6f6d4b2bed11e08565ef5c09adc029f2657fe8727e437fcffd2ed5b79c34", func := "loop.example/g00595/laws.FnExactGenusByApery", spec := "fnExactGenusByApery", apart := false, narrowed := true }
def FnExactGenusByAperyUptoSaid : Prop := fnExactGenusByAperyUptoRow.holds Try.pinned (OpenSpec.upto fnExactGenusByAperySpec)

/-- 'laws.FnExactElementAt', WHERE WHAT IT READS IS OF BULK AT MOST 1048576: true; the input reads as it did. -/
def fnExactElementAtUptoRow : OpenClaim := { program := "ytfljjdlgdpjejaa", sum := "63da6f6d4b2bed11e08565ef5c09adc029f2657fe8727e437fcffd2ed5b79c34", func := "loop.example/g00595/laws.FnExactElementAt", spec := "fnExactElementAt", apart := false, narrowed := true }
def FnExactElementAtUptoSaid : Prop := fnExactElementAtUptoRow.holds Try.pinned (OpenSpec.upto fnExactElementAtSpec)

/-- 'laws.FnExactFrobeniusByApery', WHERE WHAT IT READS IS OF BULK AT MOST 1048576: true; the input reads as it did. -/
def fnExactFrobeniusByAperyUptoRow : OpenClaim := { program := "ytfljjdlgdpjejaa", sum := "63da6f6d4b2bed11e08565ef5c09adc029f2657fe8727e437fcffd2ed5b79c34", func := "loop.example/g00595/laws.FnExactFrobeniusByApery", spec := "fnExactFrobeniusByApery", apart := false, narrowed := true }
def FnExactFrobeniusByAperyUptoSaid : Prop := fnExactFrobeniusByAperyUptoRow.holds Try.pinned (OpenSpec.upto fnExactFrobeniusByAperySpec)

/-- 'laws.FnExactIsSymmetric', WHERE WHAT IT READS IS OF BULK AT MOST 1048576: true; the input reads as it did. -/
def fnExactIsSymmetricUptoRow : OpenClaim := { program := "ytfljjdlgdpjejaa", sum := "63da6f6d4b2bed11e08565ef5c09adc029f2657fe8727e437fcffd2ed5b79c34", func := "loop.example/g00595/laws.FnExactIsSymmetric", spec := "fnExactIsSymmetric", apart := false, narrowed := true }
def FnExactIsSymmetricUptoSaid : Prop := fnExactIsSymmetricUptoRow.holds Try.pinned (OpenSpec.upto fnExactIsSymmetricSpec)

/-- 'laws.FnExactIsPseudoSymmetric', WHERE WHAT IT READS IS OF BULK AT MOST 1048576: true; the input reads as it did. -/
def fnExactIsPseudoSymmetricUptoRow : OpenClaim := { program := "ytfljjdlgdpjejaa", sum := "63da6f6d4b2bed11e08565ef5c09adc029f2657fe8727e437fcffd2ed5b79c34", func := "loop.example/g00595/laws.FnExactIsPseudoSymmetric", spec := "fnExactIsPseudoSymmetric", apart := false, narrowed := true }
def FnExactIsPseudoSymmetricUptoSaid : Prop := fnExactIsPseudoSymmetricUptoRow.holds Try.pinned (OpenSpec.upto fnExactIsPseudoSymmetricSpec)

/-- 'laws.FnExactIsIrreducible', WHERE WHAT IT READS IS OF BULK AT MOST 1048576: true; the input reads as it did. -/
def fnExactIsIrreducibleUptoRow : OpenClaim := { program := "ytfljjdlgdpjejaa", sum := "63da6f6d4b2bed11e08565ef5c09adc029f2657fe8727e437fcffd2ed5b79c34", func := "loop.example/g00595/laws.FnExactIsIrreducible", spec := "fnExactIsIrreducible", apart := false, narrowed := true }
def FnExactIsIrreducibleUptoSaid : Prop := fnExactIsIrreducibleUptoRow.holds Try.pinned (OpenSpec.upto fnExactIsIrreducibleSpec)

end Rows
end Go.Proofs.Ytfljjdlgdpjejaa
