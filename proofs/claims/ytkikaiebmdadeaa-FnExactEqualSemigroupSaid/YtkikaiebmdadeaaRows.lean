/-
  No cell of these rows narrows 'for every input' (looked for: loops, veiled, ifaces, maps, wideKeys, modest, calm, conditions, laid).
  DERIVED. THE GIVEN ROWS OF THIS SEAT. 11 by the template 'for every input the law returns true; each argument reads behind the call as it read before'; 0 by the template 'total and deterministic' (their statements: YtkikaiebmdadeaaTotals.lean).
  GIVEN WITH THE SEED: the statements are not yours to turn. If you find one false, say at which input.
  Laid BY PROGRAM, IN A SANDBOX (cutbox-rows.mjs): the forced cells as the released guide's own fill.sh prints them over the translation 9729355b9e4e4a36… (all of the seat's roots in one cut). By AI agents, Wed Nov 11 2026. No macro, syntax, notation, axiom, sorry.
-/
import Derived.Test.YtkikaiebmdadeaaChecked
import GoSem.Claim
import GoSem.ClaimJoined
import GoSem.ClaimMapViews
import Derived.JoinedTies
import Derived.KernelRfl
namespace Go.Proofs.Ytkikaiebmdadeaa
/- THE CELL 'sum', in the pinned program and in every row, IS THE sha256 OF THE DUMP (.gsa) THAT YtkikaiebmdadeaaProg.lean LOADS. Nothing in Lean hashes anything: it is a label: what it is worth is what the hold of that sum in a sandbox is worth. -/
noncomputable def Try.pinned : Pinned := { name := "ytkikaiebmdadeaa", sum := "9729355b9e4e4a362b04346e66e79be7e347088b370161dd3c9dd807fd6da77e", checked := Try.checked }
namespace Rows
def none {H : Type} : Left H := { results := [], args := [] }

/-- 'laws.FnSymmetry': WHATEVER THE INPUT: true; the input reads as it did. -/
def fnSymmetrySpec : ChangeSpec := { name := "fnSymmetry", fn := fun _ => fun
  | [d] => { results := [.lit (.bool true)], args := [d] }
  | _ => none }
def fnSymmetryRow : OpenClaim := { program := "ytkikaiebmdadeaa", sum := "9729355b9e4e4a362b04346e66e79be7e347088b370161dd3c9dd807fd6da77e", func := "loop.example/g00595/laws.FnSymmetry", spec := "fnSymmetry", apart := false }
def FnSymmetrySaid : Prop := fnSymmetryRow.holds Try.pinned (OpenSpec.ofChange fnSymmetrySpec)

/-- ITS FALSE NEIGHBOUR: 'it returns false'. Refute it at one input. -/
def fnSymmetryWrong : ChangeSpec := { name := "fnSymmetry", fn := fun _ => fun
  | [d] => { results := [.lit (.bool false)], args := [d] }
  | _ => none }
def FnSymmetryWrongFalsely : Prop := fnSymmetryRow.holds Try.pinned (OpenSpec.ofChange fnSymmetryWrong)

/-- 'laws.FnExactEqualSemigroup': WHATEVER THE INPUT: true; the input reads as it did. -/
def fnExactEqualSemigroupSpec : ChangeSpec := { name := "fnExactEqualSemigroup", fn := fun _ => fun
  | [d1, d2] => { results := [.lit (.bool true)], args := [d1, d2] }
  | _ => none }
def fnExactEqualSemigroupRow : OpenClaim := { program := "ytkikaiebmdadeaa", sum := "9729355b9e4e4a362b04346e66e79be7e347088b370161dd3c9dd807fd6da77e", func := "loop.example/g00595/laws.FnExactEqualSemigroup", spec := "fnExactEqualSemigroup", apart := false }
def FnExactEqualSemigroupSaid : Prop := fnExactEqualSemigroupRow.holds Try.pinned (OpenSpec.ofChange fnExactEqualSemigroupSpec)

/-- ITS FALSE NEIGHBOUR: 'it returns false'. Refute it at one input. -/
def fnExactEqualSemigroupWrong : ChangeSpec := { name := "fnExactEqualSemigroup", fn := fun _ => fun
  | [d1, d2] => { results := [.lit (.bool false)], args := [d1, d2] }
  | _ => none }
def FnExactEqualSemigroupWrongFalsely : Prop := fnExactEqualSemigroupRow.holds Try.pinned (OpenSpec.ofChange fnExactEqualSemigroupWrong)

/-- 'laws.FnExactGcdOfList': WHATEVER THE INPUT: true; the input reads as it did. -/
def fnExactGcdOfListSpec : ChangeSpec := { name := "fnExactGcdOfList", fn := fun _ => fun
  | [d] => { results := [.lit (.bool true)], args := [d] }
  | _ => none }
def fnExactGcdOfListRow : OpenClaim := { program := "ytkikaiebmdadeaa", sum := "9729355b9e4e4a362b04346e66e79be7e347088b370161dd3c9dd807fd6da77e", func := "loop.example/g00595/laws.FnExactGcdOfList", spec := "fnExactGcdOfList", apart := false }
def FnExactGcdOfListSaid : Prop := fnExactGcdOfListRow.holds Try.pinned (OpenSpec.ofChange fnExactGcdOfListSpec)

/-- ITS FALSE NEIGHBOUR: 'it returns false'. Refute it at one input. -/
def fnExactGcdOfListWrong : ChangeSpec := { name := "fnExactGcdOfList", fn := fun _ => fun
  | [d] => { results := [.lit (.bool false)], args := [d] }
  | _ => none }
def FnExactGcdOfListWrongFalsely : Prop := fnExactGcdOfListRow.holds Try.pinned (OpenSpec.ofChange fnExactGcdOfListWrong)

/-- 'laws.FnExactGapClash': WHATEVER THE INPUT: true; the input reads as it did. -/
def fnExactGapClashSpec : ChangeSpec := { name := "fnExactGapClash", fn := fun _ => fun
  | [d] => { results := [.lit (.bool true)], args := [d] }
  | _ => none }
def fnExactGapClashRow : OpenClaim := { program := "ytkikaiebmdadeaa", sum := "9729355b9e4e4a362b04346e66e79be7e347088b370161dd3c9dd807fd6da77e", func := "loop.example/g00595/laws.FnExactGapClash", spec := "fnExactGapClash", apart := false }
def FnExactGapClashSaid : Prop := fnExactGapClashRow.holds Try.pinned (OpenSpec.ofChange fnExactGapClashSpec)

/-- ITS FALSE NEIGHBOUR: 'it returns false'. Refute it at one input. -/
def fnExactGapClashWrong : ChangeSpec := { name := "fnExactGapClash", fn := fun _ => fun
  | [d] => { results := [.lit (.bool false)], args := [d] }
  | _ => none }
def FnExactGapClashWrongFalsely : Prop := fnExactGapClashRow.holds Try.pinned (OpenSpec.ofChange fnExactGapClashWrong)

/-- 'laws.FnExactJoin': WHATEVER THE INPUT: true; the input reads as it did. -/
def fnExactJoinSpec : ChangeSpec := { name := "fnExactJoin", fn := fun _ => fun
  | [d1, d2] => { results := [.lit (.bool true)], args := [d1, d2] }
  | _ => none }
def fnExactJoinRow : OpenClaim := { program := "ytkikaiebmdadeaa", sum := "9729355b9e4e4a362b04346e66e79be7e347088b370161dd3c9dd807fd6da77e", func := "loop.example/g00595/laws.FnExactJoin", spec := "fnExactJoin", inPlace := ["internal/abi.NoEscape", "internal/bytealg.MakeNoZero"], apart := false }
def FnExactJoinSaid : Prop := fnExactJoinRow.holds Try.pinned (OpenSpec.ofChange fnExactJoinSpec)

/-- ITS FALSE NEIGHBOUR: 'it returns false'. Refute it at one input. -/
def fnExactJoinWrong : ChangeSpec := { name := "fnExactJoin", fn := fun _ => fun
  | [d1, d2] => { results := [.lit (.bool false)], args := [d1, d2] }
  | _ => none }
def FnExactJoinWrongFalsely : Prop := fnExactJoinRow.holds Try.pinned (OpenSpec.ofChange fnExactJoinWrong)

/-- 'laws.FnExactGenerates': WHATEVER THE INPUT: true; the input reads as it did. -/
def fnExactGeneratesSpec : ChangeSpec := { name := "fnExactGenerates", fn := fun _ => fun
  | [d1, d2] => { results := [.lit (.bool true)], args := [d1, d2] }
  | _ => none }
def fnExactGeneratesRow : OpenClaim := { program := "ytkikaiebmdadeaa", sum := "9729355b9e4e4a362b04346e66e79be7e347088b370161dd3c9dd807fd6da77e", func := "loop.example/g00595/laws.FnExactGenerates", spec := "fnExactGenerates", apart := false }
def FnExactGeneratesSaid : Prop := fnExactGeneratesRow.holds Try.pinned (OpenSpec.ofChange fnExactGeneratesSpec)

/-- ITS FALSE NEIGHBOUR: 'it returns false'. Refute it at one input. -/
def fnExactGeneratesWrong : ChangeSpec := { name := "fnExactGenerates", fn := fun _ => fun
  | [d1, d2] => { results := [.lit (.bool false)], args := [d1, d2] }
  | _ => none }
def FnExactGeneratesWrongFalsely : Prop := fnExactGeneratesRow.holds Try.pinned (OpenSpec.ofChange fnExactGeneratesWrong)

/-- 'laws.FnSplit': WHATEVER THE INPUT: true; the input reads as it did. -/
def fnSplitSpec : ChangeSpec := { name := "fnSplit", fn := fun _ => fun
  | [d] => { results := [.lit (.bool true)], args := [d] }
  | _ => none }
def fnSplitRow : OpenClaim := { program := "ytkikaiebmdadeaa", sum := "9729355b9e4e4a362b04346e66e79be7e347088b370161dd3c9dd807fd6da77e", func := "loop.example/g00595/laws.FnSplit", spec := "fnSplit", inPlace := ["internal/abi.NoEscape", "internal/bytealg.MakeNoZero"], apart := false }
def FnSplitSaid : Prop := fnSplitRow.holds Try.pinned (OpenSpec.ofChange fnSplitSpec)

/-- ITS FALSE NEIGHBOUR: 'it returns false'. Refute it at one input. -/
def fnSplitWrong : ChangeSpec := { name := "fnSplit", fn := fun _ => fun
  | [d] => { results := [.lit (.bool false)], args := [d] }
  | _ => none }
def FnSplitWrongFalsely : Prop := fnSplitRow.holds Try.pinned (OpenSpec.ofChange fnSplitWrong)

/-- 'laws.FnApery': WHATEVER THE INPUT: true; the input reads as it did. -/
def fnAperySpec : ChangeSpec := { name := "fnApery", fn := fun _ => fun
  | [d] => { results := [.lit (.bool true)], args := [d] }
  | _ => none }
def fnAperyRow : OpenClaim := { program := "ytkikaiebmdadeaa", sum := "9729355b9e4e4a362b04346e66e79be7e347088b370161dd3c9dd807fd6da77e", func := "loop.example/g00595/laws.FnApery", spec := "fnApery", recurses := true, apart := false }
def FnAperySaid : Prop := fnAperyRow.holds Try.pinned (OpenSpec.ofChange fnAperySpec)

/-- ITS FALSE NEIGHBOUR: 'it returns false'. Refute it at one input. -/
def fnAperyWrong : ChangeSpec := { name := "fnApery", fn := fun _ => fun
  | [d] => { results := [.lit (.bool false)], args := [d] }
  | _ => none }
def FnAperyWrongFalsely : Prop := fnAperyRow.holds Try.pinned (OpenSpec.ofChange fnAperyWrong)

/-- 'laws.FnExactIsSemigroup': WHATEVER THE INPUT: true; the input reads as it did. -/
def fnExactIsSemigroupSpec : ChangeSpec := { name := "fnExactIsSemigroup", fn := fun _ => fun
  | [d] => { results := [.lit (.bool true)], args := [d] }
  | _ => none }
def fnExactIsSemigroupRow : OpenClaim := { program := "ytkikaiebmdadeaa", sum := "9729355b9e4e4a362b04346e66e79be7e347088b370161dd3c9dd807fd6da77e", func := "loop.example/g00595/laws.FnExactIsSemigroup", spec := "fnExactIsSemigroup", apart := false }
def FnExactIsSemigroupSaid : Prop := fnExactIsSemigroupRow.holds Try.pinned (OpenSpec.ofChange fnExactIsSemigroupSpec)

/-- ITS FALSE NEIGHBOUR: 'it returns false'. Refute it at one input. -/
def fnExactIsSemigroupWrong : ChangeSpec := { name := "fnExactIsSemigroup", fn := fun _ => fun
  | [d] => { results := [.lit (.bool false)], args := [d] }
  | _ => none }
def FnExactIsSemigroupWrongFalsely : Prop := fnExactIsSemigroupRow.holds Try.pinned (OpenSpec.ofChange fnExactIsSemigroupWrong)

/-- 'laws.FnExactDimensionOf': WHATEVER THE INPUT: true; the input reads as it did. -/
def fnExactDimensionOfSpec : ChangeSpec := { name := "fnExactDimensionOf", fn := fun _ => fun
  | [d] => { results := [.lit (.bool true)], args := [d] }
  | _ => none }
def fnExactDimensionOfRow : OpenClaim := { program := "ytkikaiebmdadeaa", sum := "9729355b9e4e4a362b04346e66e79be7e347088b370161dd3c9dd807fd6da77e", func := "loop.example/g00595/laws.FnExactDimensionOf", spec := "fnExactDimensionOf", apart := false }
def FnExactDimensionOfSaid : Prop := fnExactDimensionOfRow.holds Try.pinned (OpenSpec.ofChange fnExactDimensionOfSpec)

/-- ITS FALSE NEIGHBOUR: 'it returns false'. Refute it at one input. -/
def fnExactDimensionOfWrong : ChangeSpec := { name := "fnExactDimensionOf", fn := fun _ => fun
  | [d] => { results := [.lit (.bool false)], args := [d] }
  | _ => none }
def FnExactDimensionOfWrongFalsely : Prop := fnExactDimensionOfRow.holds Try.pinned (OpenSpec.ofChange fnExactDimensionOfWrong)

/-- 'laws.FnExactMultiplicityOf': WHATEVER THE INPUT: true; the input reads as it did. -/
def fnExactMultiplicityOfSpec : ChangeSpec := { name := "fnExactMultiplicityOf", fn := fun _ => fun
  | [d] => { results := [.lit (.bool true)], args := [d] }
  | _ => none }
def fnExactMultiplicityOfRow : OpenClaim := { program := "ytkikaiebmdadeaa", sum := "9729355b9e4e4a362b04346e66e79be7e347088b370161dd3c9dd807fd6da77e", func := "loop.example/g00595/laws.FnExactMultiplicityOf", spec := "fnExactMultiplicityOf", apart := false }
def FnExactMultiplicityOfSaid : Prop := fnExactMultiplicityOfRow.holds Try.pinned (OpenSpec.ofChange fnExactMultiplicityOfSpec)

/-- ITS FALSE NEIGHBOUR: 'it returns false'. Refute it at one input. -/
def fnExactMultiplicityOfWrong : ChangeSpec := { name := "fnExactMultiplicityOf", fn := fun _ => fun
  | [d] => { results := [.lit (.bool false)], args := [d] }
  | _ => none }
def FnExactMultiplicityOfWrongFalsely : Prop := fnExactMultiplicityOfRow.holds Try.pinned (OpenSpec.ofChange fnExactMultiplicityOfWrong)

/- THE SECOND FORM. 'bulk': how many values and letters a reading holds, each counted each time it is reached (what is shared counts as often as it is met; a slice's spare places count too). A statement '..UptoSaid' is the law's where the arguments, and the package variables that the reading takes, are together of bulk at most 1048576: NARROWER than '..Said'. Prove '..Said' where nothing that the law and all that it calls make is longer than what came in: it says more and counts as full. Else prove '..UptoSaid'. A law counts once. -/
mutual
def uptoBulk {H : Type} : DataW H → Nat
  | .lit (.string bytes) => bytes.length + 1
  | .lit _ => 1
  | .nil => 1
  | .ptr d => uptoBulk d + 1
  | .slice elems spare => uptoBulkAll elems + uptoBulkAll spare + 1
  | .agg parts => uptoBulkAll parts + 1
  | .iface _ d => uptoBulk d + 1
  | .map entries => uptoBulkEntries entries + 1
  | .held _ => 1
def uptoBulkAll {H : Type} : List (DataW H) → Nat
  | [] => 0
  | d :: r => uptoBulk d + uptoBulkAll r
def uptoBulkEntries {H : Type} : List (Lit × DataW H) → Nat
  | [] => 0
  | x :: r => uptoBulkEntry x + uptoBulkEntries r
def uptoBulkEntry {H : Type} : Lit × DataW H → Nat
  | (.string bytes, d) => bytes.length + uptoBulk d + 1
  | (_, d) => uptoBulk d + 1
 end
def uptoSmall : (H : Type) → List (DataW H) → Bool := fun _ ds => decide (uptoBulkAll ds ≤ 1048576)
def OpenSpec.upto (s : _root_.Go.ChangeSpec) : _root_.Go.OpenSpec := { _root_.Go.OpenSpec.ofChange s with cond := some uptoSmall }

/-- 'laws.FnSymmetry', WHERE WHAT IT READS IS OF BULK AT MOST 1048576: true; the input reads as it did. -/
def fnSymmetryUptoRow : OpenClaim := { program := "ytkikaiebmdadeaa", sum := "9729355b9e4e4a362b04346e66e79be7e347088b370161dd3c9dd807fd6da77e", func := "loop.example/g00595/laws.FnSymmetry", spec := "fnSymmetry", apart := false, narrowed := true }
def FnSymmetryUptoSaid : Prop := fnSymmetryUptoRow.holds Try.pinned (OpenSpec.upto fnSymmetrySpec)

/-- 'laws.FnExactEqualSemigroup', WHERE WHAT IT READS IS OF BULK AT MOST 1048576: true; the input reads as it did. -/
def fnExactEqualSemigroupUptoRow : OpenClaim := { program := "ytkikaiebmdadeaa", sum := "9729355b9e4e4a362b04346e66e79be7e347088b370161dd3c9dd807fd6da77e", func := "loop.example/g00595/laws.FnExactEqualSemigroup", spec := "fnExactEqualSemigroup", apart := false, narrowed := true }
def FnExactEqualSemigroupUptoSaid : Prop := fnExactEqualSemigroupUptoRow.holds Try.pinned (OpenSpec.upto fnExactEqualSemigroupSpec)

/-- 'laws.FnExactGcdOfList', WHERE WHAT IT READS IS OF BULK AT MOST 1048576: true; the input reads as it did. -/
def fnExactGcdOfListUptoRow : OpenClaim := { program := "ytkikaiebmdadeaa", sum := "9729355b9e4e4a362b04346e66e79be7e347088b370161dd3c9dd807fd6da77e", func := "loop.example/g00595/laws.FnExactGcdOfList", spec := "fnExactGcdOfList", apart := false, narrowed := true }
def FnExactGcdOfListUptoSaid : Prop := fnExactGcdOfListUptoRow.holds Try.pinned (OpenSpec.upto fnExactGcdOfListSpec)

/-- 'laws.FnExactGapClash', WHERE WHAT IT READS IS OF BULK AT MOST 1048576: true; the input reads as it did. -/
def fnExactGapClashUptoRow : OpenClaim := { program := "ytkikaiebmdadeaa", sum := "9729355b9e4e4a362b04346e66e79be7e347088b370161dd3c9dd807fd6da77e", func := "loop.example/g00595/laws.FnExactGapClash", spec := "fnExactGapClash", apart := false, narrowed := true }
def FnExactGapClashUptoSaid : Prop := fnExactGapClashUptoRow.holds Try.pinned (OpenSpec.upto fnExactGapClashSpec)

/-- 'laws.FnExactJoin', WHERE WHAT IT READS IS OF BULK AT MOST 1048576: true; the input reads as it did. -/
def fnExactJoinUptoRow : OpenClaim := { program := "ytkikaiebmdadeaa", sum := "9729355b9e4e4a362b04346e66e79be7e347088b370161dd3c9dd807fd6da77e", func := "loop.example/g00595/laws.FnExactJoin", spec := "fnExactJoin", inPlace := ["internal/abi.NoEscape", "internal/bytealg.MakeNoZero"], apart := false, narrowed := true }
def FnExactJoinUptoSaid : Prop := fnExactJoinUptoRow.holds Try.pinned (OpenSpec.upto fnExactJoinSpec)

/-- 'laws.FnExactGenerates', WHERE WHAT IT READS IS OF BULK AT MOST 1048576: true; the input reads as it did. -/
def fnExactGeneratesUptoRow : OpenClaim := { program := "ytkikaiebmdadeaa", sum := "9729355b9e4e4a362b04346e66e79be7e347088b370161dd3c9dd807fd6da77e", func := "loop.example/g00595/laws.FnExactGenerates", spec := "fnExactGenerates", apart := false, narrowed := true }
def FnExactGeneratesUptoSaid : Prop := fnExactGeneratesUptoRow.holds Try.pinned (OpenSpec.upto fnExactGeneratesSpec)

/-- 'laws.FnSplit', WHERE WHAT IT READS IS OF BULK AT MOST 1048576: true; the input reads as it did. -/
def fnSplitUptoRow : OpenClaim := { program := "ytkikaiebmdadeaa", sum := "9729355b9e4e4a362b04346e66e79be7e347088b370161dd3c9dd807fd6da77e", func := "loop.example/g00595/laws.FnSplit", spec := "fnSplit", inPlace := ["internal/abi.NoEscape", "internal/bytealg.MakeNoZero"], apart := false, narrowed := true }
def FnSplitUptoSaid : Prop := fnSplitUptoRow.holds Try.pinned (OpenSpec.upto fnSplitSpec)

/-- 'laws.FnApery', WHERE WHAT IT READS IS OF BULK AT MOST 1048576: true; the input reads as it did. -/
def fnAperyUptoRow : OpenClaim := { program := "ytkikaiebmdadeaa", sum := "9729355b9e4e4a362b04346e66e79be7e347088b370161dd3c9dd807fd6da77e", func := "loop.example/g00595/laws.FnApery", spec := "fnApery", recurses := true, apart := false, narrowed := true }
def FnAperyUptoSaid : Prop := fnAperyUptoRow.holds Try.pinned (OpenSpec.upto fnAperySpec)

/-- 'laws.FnExactIsSemigroup', WHERE WHAT IT READS IS OF BULK AT MOST 1048576: true; the input reads as it did. -/
def fnExactIsSemigroupUptoRow : OpenClaim := { program := "ytkikaiebmdadeaa", sum := "9729355b9e4e4a362b04346e66e79be7e347088b370161dd3c9dd807fd6da77e", func := "loop.example/g00595/laws.FnExactIsSemigroup", spec := "fnExactIsSemigroup", apart := false, narrowed := true }
def FnExactIsSemigroupUptoSaid : Prop := fnExactIsSemigroupUptoRow.holds Try.pinned (OpenSpec.upto fnExactIsSemigroupSpec)

/-- 'laws.FnExactDimensionOf', WHERE WHAT IT READS IS OF BULK AT MOST 1048576: true; the input reads as it did. -/
def fnExactDimensionOfUptoRow : OpenClaim := { program := "ytkikaiebmdadeaa", sum := "9729355b9e4e4a362b04346e66e79be7e347088b370161dd3c9dd807fd6da77e", func := "loop.example/g00595/laws.FnExactDimensionOf", spec := "fnExactDimensionOf", apart := false, narrowed := true }
def FnExactDimensionOfUptoSaid : Prop := fnExactDimensionOfUptoRow.holds Try.pinned (OpenSpec.upto fnExactDimensionOfSpec)

/-- 'laws.FnExactMultiplicityOf', WHERE WHAT IT READS IS OF BULK AT MOST 1048576: true; the input reads as it did. -/
def fnExactMultiplicityOfUptoRow : OpenClaim := { program := "ytkikaiebmdadeaa", sum := "9729355b9e4e4a362b04346e66e79be7e347088b370161dd3c9dd807fd6da77e", func := "loop.example/g00595/laws.FnExactMultiplicityOf", spec := "fnExactMultiplicityOf", apart := false, narrowed := true }
def FnExactMultiplicityOfUptoSaid : Prop := fnExactMultiplicityOfUptoRow.holds Try.pinned (OpenSpec.upto fnExactMultiplicityOfSpec)

end Rows
end Go.Proofs.Ytkikaiebmdadeaa
