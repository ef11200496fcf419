/-
  No cell of these rows narrows 'for every input' (looked for: loops, veiled, ifaces, maps, wideKeys, modest, calm, conditions, laid).
  DERIVED. THE GIVEN ROWS OF THIS SEAT. 14 by the template 'for every input the law returns true; each argument reads behind the call as it read before'; 0 by the template 'total and deterministic' (their statements: YtbagfnppeidonaaTotals.lean).
  GIVEN WITH THE SEED: the statements are not yours to turn. If you find one false, say at which input.
  Laid BY PROGRAM, IN A SANDBOX (cutbox-rows.mjs): the forced cells as the released guide's own fill.sh prints them over the translation e002f7f083f2cf8d… (all of the seat's roots in one cut). By AI agents, Wed Nov 11 2026. No macro, syntax, notation, axiom, sorry.
-/
import Derived.Test.YtbagfnppeidonaaChecked
import GoSem.Claim
import GoSem.ClaimJoined
import GoSem.ClaimMapViews
import Derived.JoinedTies
import Derived.KernelRfl
namespace Go.Proofs.Ytbagfnppeidonaa
/- THE CELL 'sum', in the pinned program and in every row, IS THE sha256 OF THE DUMP (.gsa) THAT YtbagfnppeidonaaProg.lean LOADS. Nothing in Lean hashes anything: it is a label: what it is worth is what the hold of that sum in a sandbox is worth. -/
noncomputable def Try.pinned : Pinned := { name := "ytbagfnppeidonaa", sum := "e002f7f083f2cf8d9d7b7406cab21a36ac7fbcedb31bc44fe7ef89a4afa73dfd", checked := Try.checked }
namespace Rows
def none {H : Type} : Left H := { results := [], args := [] }

/-- 'laws.FnExactJoin': WHATEVER THE INPUT: true; the input reads as it did. -/
def fnExactJoinSpec : ChangeSpec := { name := "fnExactJoin", fn := fun _ => fun
  | [d1, d2] => { results := [.lit (.bool true)], args := [d1, d2] }
  | _ => none }
def fnExactJoinRow : OpenClaim := { program := "ytbagfnppeidonaa", sum := "e002f7f083f2cf8d9d7b7406cab21a36ac7fbcedb31bc44fe7ef89a4afa73dfd", func := "loop.example/g00595/laws.FnExactJoin", spec := "fnExactJoin", inPlace := ["internal/abi.NoEscape", "internal/bytealg.MakeNoZero"], apart := false }
def FnExactJoinSaid : Prop := fnExactJoinRow.holds Try.pinned (OpenSpec.ofChange fnExactJoinSpec)

/-- ITS FALSE NEIGHBOUR: 'it returns false'. Refute it at one input. -/
def fnExactJoinWrong : ChangeSpec := { name := "fnExactJoin", fn := fun _ => fun
  | [d1, d2] => { results := [.lit (.bool false)], args := [d1, d2] }
  | _ => none }
def FnExactJoinWrongFalsely : Prop := fnExactJoinRow.holds Try.pinned (OpenSpec.ofChange fnExactJoinWrong)

/-- 'laws.FnSplit': WHATEVER THE INPUT: true; the input reads as it did. -/
def fnSplitSpec : ChangeSpec := { name := "fnSplit", fn := fun _ => fun
  | [d] => { results := [.lit (.bool true)], args := [d] }
  | _ => none }
def fnSplitRow : OpenClaim := { program := "ytbagfnppeidonaa", sum := "e002f7f083f2cf8d9d7b7406cab21a36ac7fbcedb31bc44fe7ef89a4afa73dfd", func := "loop.example/g00595/laws.FnSplit", spec := "fnSplit", inPlace := ["internal/abi.NoEscape", "internal/bytealg.MakeNoZero"], apart := false }
def FnSplitSaid : Prop := fnSplitRow.holds Try.pinned (OpenSpec.ofChange fnSplitSpec)

/-- ITS FALSE NEIGHBOUR: 'it returns false'. Refute it at one input. -/
def fnSplitWrong : ChangeSpec := { name := "fnSplit", fn := fun _ => fun
  | [d] => { results := [.lit (.bool false)], args := [d] }
  | _ => none }
def FnSplitWrongFalsely : Prop := fnSplitRow.holds Try.pinned (OpenSpec.ofChange fnSplitWrong)

/-- 'laws.FnExactSortList': WHATEVER THE INPUT: true; the input reads as it did. -/
def fnExactSortListSpec : ChangeSpec := { name := "fnExactSortList", fn := fun _ => fun
  | [d] => { results := [.lit (.bool true)], args := [d] }
  | _ => none }
def fnExactSortListRow : OpenClaim := { program := "ytbagfnppeidonaa", sum := "e002f7f083f2cf8d9d7b7406cab21a36ac7fbcedb31bc44fe7ef89a4afa73dfd", func := "loop.example/g00595/laws.FnExactSortList", spec := "fnExactSortList", recurses := true, apart := false }
def FnExactSortListSaid : Prop := fnExactSortListRow.holds Try.pinned (OpenSpec.ofChange fnExactSortListSpec)

/-- ITS FALSE NEIGHBOUR: 'it returns false'. Refute it at one input. -/
def fnExactSortListWrong : ChangeSpec := { name := "fnExactSortList", fn := fun _ => fun
  | [d] => { results := [.lit (.bool false)], args := [d] }
  | _ => none }
def FnExactSortListWrongFalsely : Prop := fnExactSortListRow.holds Try.pinned (OpenSpec.ofChange fnExactSortListWrong)

/-- 'laws.FnExactSharedOf': WHATEVER THE INPUT: true; the input reads as it did. -/
def fnExactSharedOfSpec : ChangeSpec := { name := "fnExactSharedOf", fn := fun _ => fun
  | [d1, d2] => { results := [.lit (.bool true)], args := [d1, d2] }
  | _ => none }
def fnExactSharedOfRow : OpenClaim := { program := "ytbagfnppeidonaa", sum := "e002f7f083f2cf8d9d7b7406cab21a36ac7fbcedb31bc44fe7ef89a4afa73dfd", func := "loop.example/g00595/laws.FnExactSharedOf", spec := "fnExactSharedOf", recurses := true, apart := false }
def FnExactSharedOfSaid : Prop := fnExactSharedOfRow.holds Try.pinned (OpenSpec.ofChange fnExactSharedOfSpec)

/-- ITS FALSE NEIGHBOUR: 'it returns false'. Refute it at one input. -/
def fnExactSharedOfWrong : ChangeSpec := { name := "fnExactSharedOf", fn := fun _ => fun
  | [d1, d2] => { results := [.lit (.bool false)], args := [d1, d2] }
  | _ => none }
def FnExactSharedOfWrongFalsely : Prop := fnExactSharedOfRow.holds Try.pinned (OpenSpec.ofChange fnExactSharedOfWrong)

/-- 'laws.FnExactSumsOf': WHATEVER THE INPUT: true; the input reads as it did. -/
def fnExactSumsOfSpec : ChangeSpec := { name := "fnExactSumsOf", fn := fun _ => fun
  | [d1, d2] => { results := [.lit (.bool true)], args := [d1, d2] }
  | _ => none }
def fnExactSumsOfRow : OpenClaim := { program := "ytbagfnppeidonaa", sum := "e002f7f083f2cf8d9d7b7406cab21a36ac7fbcedb31bc44fe7ef89a4afa73dfd", func := "loop.example/g00595/laws.FnExactSumsOf", spec := "fnExactSumsOf", recurses := true, apart := false }
def FnExactSumsOfSaid : Prop := fnExactSumsOfRow.holds Try.pinned (OpenSpec.ofChange fnExactSumsOfSpec)

/-- ITS FALSE NEIGHBOUR: 'it returns false'. Refute it at one input. -/
def fnExactSumsOfWrong : ChangeSpec := { name := "fnExactSumsOf", fn := fun _ => fun
  | [d1, d2] => { results := [.lit (.bool false)], args := [d1, d2] }
  | _ => none }
def FnExactSumsOfWrongFalsely : Prop := fnExactSumsOfRow.holds Try.pinned (OpenSpec.ofChange fnExactSumsOfWrong)

/-- 'laws.FnGaps': WHATEVER THE INPUT: true; the input reads as it did. -/
def fnGapsSpec : ChangeSpec := { name := "fnGaps", fn := fun _ => fun
  | [d] => { results := [.lit (.bool true)], args := [d] }
  | _ => none }
def fnGapsRow : OpenClaim := { program := "ytbagfnppeidonaa", sum := "e002f7f083f2cf8d9d7b7406cab21a36ac7fbcedb31bc44fe7ef89a4afa73dfd", func := "loop.example/g00595/laws.FnGaps", spec := "fnGaps", apart := false }
def FnGapsSaid : Prop := fnGapsRow.holds Try.pinned (OpenSpec.ofChange fnGapsSpec)

/-- ITS FALSE NEIGHBOUR: 'it returns false'. Refute it at one input. -/
def fnGapsWrong : ChangeSpec := { name := "fnGaps", fn := fun _ => fun
  | [d] => { results := [.lit (.bool false)], args := [d] }
  | _ => none }
def FnGapsWrongFalsely : Prop := fnGapsRow.holds Try.pinned (OpenSpec.ofChange fnGapsWrong)

/-- 'laws.FnExactFromElements': WHATEVER THE INPUT: true; the input reads as it did. -/
def fnExactFromElementsSpec : ChangeSpec := { name := "fnExactFromElements", fn := fun _ => fun
  | [d1, d2] => { results := [.lit (.bool true)], args := [d1, d2] }
  | _ => none }
def fnExactFromElementsRow : OpenClaim := { program := "ytbagfnppeidonaa", sum := "e002f7f083f2cf8d9d7b7406cab21a36ac7fbcedb31bc44fe7ef89a4afa73dfd", func := "loop.example/g00595/laws.FnExactFromElements", spec := "fnExactFromElements", apart := false }
def FnExactFromElementsSaid : Prop := fnExactFromElementsRow.holds Try.pinned (OpenSpec.ofChange fnExactFromElementsSpec)

/-- ITS FALSE NEIGHBOUR: 'it returns false'. Refute it at one input. -/
def fnExactFromElementsWrong : ChangeSpec := { name := "fnExactFromElements", fn := fun _ => fun
  | [d1, d2] => { results := [.lit (.bool false)], args := [d1, d2] }
  | _ => none }
def FnExactFromElementsWrongFalsely : Prop := fnExactFromElementsRow.holds Try.pinned (OpenSpec.ofChange fnExactFromElementsWrong)

/-- 'laws.FnFromGaps': WHATEVER THE INPUT: true; the input reads as it did. -/
def fnFromGapsSpec : ChangeSpec := { name := "fnFromGaps", fn := fun _ => fun
  | [d] => { results := [.lit (.bool true)], args := [d] }
  | _ => none }
def fnFromGapsRow : OpenClaim := { program := "ytbagfnppeidonaa", sum := "e002f7f083f2cf8d9d7b7406cab21a36ac7fbcedb31bc44fe7ef89a4afa73dfd", func := "loop.example/g00595/laws.FnFromGaps", spec := "fnFromGaps", apart := false }
def FnFromGapsSaid : Prop := fnFromGapsRow.holds Try.pinned (OpenSpec.ofChange fnFromGapsSpec)

/-- ITS FALSE NEIGHBOUR: 'it returns false'. Refute it at one input. -/
def fnFromGapsWrong : ChangeSpec := { name := "fnFromGaps", fn := fun _ => fun
  | [d] => { results := [.lit (.bool false)], args := [d] }
  | _ => none }
def FnFromGapsWrongFalsely : Prop := fnFromGapsRow.holds Try.pinned (OpenSpec.ofChange fnFromGapsWrong)

/-- 'laws.FnExactFromGens': WHATEVER THE INPUT: true; the input reads as it did. -/
def fnExactFromGensSpec : ChangeSpec := { name := "fnExactFromGens", fn := fun _ => fun
  | [d] => { results := [.lit (.bool true)], args := [d] }
  | _ => none }
def fnExactFromGensRow : OpenClaim := { program := "ytbagfnppeidonaa", sum := "e002f7f083f2cf8d9d7b7406cab21a36ac7fbcedb31bc44fe7ef89a4afa73dfd", func := "loop.example/g00595/laws.FnExactFromGens", spec := "fnExactFromGens", recurses := true, apart := false }
def FnExactFromGensSaid : Prop := fnExactFromGensRow.holds Try.pinned (OpenSpec.ofChange fnExactFromGensSpec)

/-- ITS FALSE NEIGHBOUR: 'it returns false'. Refute it at one input. -/
def fnExactFromGensWrong : ChangeSpec := { name := "fnExactFromGens", fn := fun _ => fun
  | [d] => { results := [.lit (.bool false)], args := [d] }
  | _ => none }
def FnExactFromGensWrongFalsely : Prop := fnExactFromGensRow.holds Try.pinned (OpenSpec.ofChange fnExactFromGensWrong)

/-- 'laws.FnSemigroups': WHATEVER THE INPUT: true; the input reads as it did. -/
def fnSemigroupsSpec : ChangeSpec := { name := "fnSemigroups", fn := fun _ => fun
  | [d] => { results := [.lit (.bool true)], args := [d] }
  | _ => none }
def fnSemigroupsRow : OpenClaim := { program := "ytbagfnppeidonaa", sum := "e002f7f083f2cf8d9d7b7406cab21a36ac7fbcedb31bc44fe7ef89a4afa73dfd", func := "loop.example/g00595/laws.FnSemigroups", spec := "fnSemigroups", recurses := true, apart := false }
def FnSemigroupsSaid : Prop := fnSemigroupsRow.holds Try.pinned (OpenSpec.ofChange fnSemigroupsSpec)

/-- ITS FALSE NEIGHBOUR: 'it returns false'. Refute it at one input. -/
def fnSemigroupsWrong : ChangeSpec := { name := "fnSemigroups", fn := fun _ => fun
  | [d] => { results := [.lit (.bool false)], args := [d] }
  | _ => none }
def FnSemigroupsWrongFalsely : Prop := fnSemigroupsRow.holds Try.pinned (OpenSpec.ofChange fnSemigroupsWrong)

/-- 'laws.FnExactFromApery': WHATEVER THE INPUT: true; the input reads as it did. -/
def fnExactFromAperySpec : ChangeSpec := { name := "fnExactFromApery", fn := fun _ => fun
  | [d] => { results := [.lit (.bool true)], args := [d] }
  | _ => none }
def fnExactFromAperyRow : OpenClaim := { program := "ytbagfnppeidonaa", sum := "e002f7f083f2cf8d9d7b7406cab21a36ac7fbcedb31bc44fe7ef89a4afa73dfd", func := "loop.example/g00595/laws.FnExactFromApery", spec := "fnExactFromApery", recurses := true, apart := false }
def FnExactFromAperySaid : Prop := fnExactFromAperyRow.holds Try.pinned (OpenSpec.ofChange fnExactFromAperySpec)

/-- ITS FALSE NEIGHBOUR: 'it returns false'. Refute it at one input. -/
def fnExactFromAperyWrong : ChangeSpec := { name := "fnExactFromApery", fn := fun _ => fun
  | [d] => { results := [.lit (.bool false)], args := [d] }
  | _ => none }
def FnExactFromAperyWrongFalsely : Prop := fnExactFromAperyRow.holds Try.pinned (OpenSpec.ofChange fnExactFromAperyWrong)

/-- 'laws.FnExactFromCoordinates': WHATEVER THE INPUT: true; the input reads as it did. -/
def fnExactFromCoordinatesSpec : ChangeSpec := { name := "fnExactFromCoordinates", fn := fun _ => fun
  | [d] => { results := [.lit (.bool true)], args := [d] }
  | _ => none }
def fnExactFromCoordinatesRow : OpenClaim := { program := "ytbagfnppeidonaa", sum := "e002f7f083f2cf8d9d7b7406cab21a36ac7fbcedb31bc44fe7ef89a4afa73dfd", func := "loop.example/g00595/laws.FnExactFromCoordinates", spec := "fnExactFromCoordinates", recurses := true, apart := false }
def FnExactFromCoordinatesSaid : Prop := fnExactFromCoordinatesRow.holds Try.pinned (OpenSpec.ofChange fnExactFromCoordinatesSpec)

/-- ITS FALSE NEIGHBOUR: 'it returns false'. Refute it at one input. -/
def fnExactFromCoordinatesWrong : ChangeSpec := { name := "fnExactFromCoordinates", fn := fun _ => fun
  | [d] => { results := [.lit (.bool false)], args := [d] }
  | _ => none }
def FnExactFromCoordinatesWrongFalsely : Prop := fnExactFromCoordinatesRow.holds Try.pinned (OpenSpec.ofChange fnExactFromCoordinatesWrong)

/-- 'laws.FnSymmetry': WHATEVER THE INPUT: true; the input reads as it did. -/
def fnSymmetrySpec : ChangeSpec := { name := "fnSymmetry", fn := fun _ => fun
  | [d] => { results := [.lit (.bool true)], args := [d] }
  | _ => none }
def fnSymmetryRow : OpenClaim := { program := "ytbagfnppeidonaa", sum := "e002f7f083f2cf8d9d7b7406cab21a36ac7fbcedb31bc44fe7ef89a4afa73dfd", func := "loop.example/g00595/laws.FnSymmetry", spec := "fnSymmetry", apart := false }
def FnSymmetrySaid : Prop := fnSymmetryRow.holds Try.pinned (OpenSpec.ofChange fnSymmetrySpec)

/-- ITS FALSE NEIGHBOUR: 'it returns false'. Refute it at one input. -/
def fnSymmetryWrong : ChangeSpec := { name := "fnSymmetry", fn := fun _ => fun
  | [d] => { results := [.lit (.bool false)], args := [d] }
  | _ => none }
def FnSymmetryWrongFalsely : Prop := fnSymmetryRow.holds Try.pinned (OpenSpec.ofChange fnSymmetryWrong)

/-- 'laws.FnApery': WHATEVER THE INPUT: true; the input reads as it did. -/
def fnAperySpec : ChangeSpec := { name := "fnApery", fn := fun _ => fun
  | [d] => { results := [.lit (.bool true)], args := [d] }
  | _ => none }
def fnAperyRow : OpenClaim := { program := "ytbagfnppeidonaa", sum := "e002f7f083f2cf8d9d7b7406cab21a36ac7fbcedb31bc44fe7ef89a4afa73dfd", func := "loop.example/g00595/laws.FnApery", spec := "fnApery", recurses := true, apart := false }
def FnAperySaid : Prop := fnAperyRow.holds Try.pinned (OpenSpec.ofChange fnAperySpec)

/-- ITS FALSE NEIGHBOUR: 'it returns false'. Refute it at one input. -/
def fnAperyWrong : ChangeSpec := { name := "fnApery", fn := fun _ => fun
  | [d] => { results := [.lit (.bool false)], args := [d] }
  | _ => none }
def FnAperyWrongFalsely : Prop := fnAperyRow.holds Try.pinned (OpenSpec.ofChange fnAperyWrong)

/- THE SECOND FORM. 'bulk': how many values and letters a reading holds, each counted each time it is reached (what is shared counts as often as it is met; a slice's spare places count too). A statement '..UptoSaid' is the law's where the arguments, and the package variables that the reading takes, are together of bulk at most 1048576: NARROWER than '..Said'. Prove '..Said' where nothing that the law and all that it calls make is longer than what came in: it says more and counts as full. Else prove '..UptoSaid'. A law counts once. -/
mutual
def uptoBulk {H : Type} : DataW H → Nat
  | .lit (.string bytes) => bytes.length + 1
  | .lit _ => 1
  | .nil => 1
  | .ptr d => uptoBulk d + 1
  | .slice elems spare => uptoBulkAll elems + uptoBulkAll spare + 1
  | .agg parts => uptoBulkAll parts + 1
  | .iface _ d => uptoBulk d + 1
  | .map entries => uptoBulkEntries entries + 1
  | .held _ => 1
def uptoBulkAll {H : Type} : List (DataW H) → Nat
  | [] => 0
  | d :: r => uptoBulk d + uptoBulkAll r
def uptoBulkEntries {H : Type} : List (Lit × DataW H) → Nat
  | [] => 0
  | x :: r => uptoBulkEntry x + uptoBulkEntries r
def uptoBulkEntry {H : Type} : Lit × DataW H → Nat
  | (.string bytes, d) => bytes.length + uptoBulk d + 1
  | (_, d) => uptoBulk d + 1
 end
def uptoSmall : (H : Type) → List (DataW H) → Bool := fun _ ds => decide (uptoBulkAll ds ≤ 1048576)
def OpenSpec.upto (s : _root_.Go.ChangeSpec) : _root_.Go.OpenSpec := { _root_.Go.OpenSpec.ofChange s with cond := some uptoSmall }

/-- 'laws.FnExactJoin', WHERE WHAT IT READS IS OF BULK AT MOST 1048576: true; the input reads as it did. -/
def fnExactJoinUptoRow : OpenClaim := { program := "ytbagfnppeidonaa", sum := "e002f7f083f2cf8d9d7b7406cab21a36ac7fbcedb31bc44fe7ef89a4afa73dfd", func := "loop.example/g00595/laws.FnExactJoin", spec := "fnExactJoin", inPlace := ["internal/abi.NoEscape", "internal/bytealg.MakeNoZero"], apart := false, narrowed := true }
def FnExactJoinUptoSaid : Prop := fnExactJoinUptoRow.holds Try.pinned (OpenSpec.upto fnExactJoinSpec)

/-- 'laws.FnSplit', WHERE WHAT IT READS IS OF BULK AT MOST 1048576: true; the input reads as it did. -/
def fnSplitUptoRow : OpenClaim := { program := "ytbagfnppeidonaa", sum := "e002f7f083f2cf8d9d7b7406cab21a36ac7fbcedb31bc44fe7ef89a4afa73dfd", func := "loop.example/g00595/laws.FnSplit", spec := "fnSplit", inPlace := ["internal/abi.NoEscape", "internal/bytealg.MakeNoZero"], apart := false, narrowed := true }
def FnSplitUptoSaid : Prop := fnSplitUptoRow.holds Try.pinned (OpenSpec.upto fnSplitSpec)

/-- 'laws.FnExactSortList', WHERE WHAT IT READS IS OF BULK AT MOST 1048576: true; the input reads as it did. -/
def fnExactSortListUptoRow : OpenClaim := { program := "ytbagfnppeidonaa", sum := "e002f7f083f2cf8d9d7b7406cab21a36ac7fbcedb31bc44fe7ef89a4afa73dfd", func := "loop.example/g00595/laws.FnExactSortList", spec := "fnExactSortList", recurses := true, apart := false, narrowed := true }
def FnExactSortListUptoSaid : Prop := fnExactSortListUptoRow.holds Try.pinned (OpenSpec.upto fnExactSortListSpec)

/-- 'laws.FnExactSharedOf', WHERE WHAT IT READS IS OF BULK AT MOST 1048576: true; the input reads as it did. -/
def fnExactSharedOfUptoRow : OpenClaim := { program := "ytbagfnppeidonaa", sum := "e002f7f083f2cf8d9d7b7406cab21a36ac7fbcedb31bc44fe7ef89a4afa73dfd", func := "loop.example/g00595/laws.FnExactSharedOf", spec := "fnExactSharedOf", recurses := true, apart := false, narrowed := true }
def FnExactSharedOfUptoSaid : Prop := fnExactSharedOfUptoRow.holds Try.pinned (OpenSpec.upto fnExactSharedOfSpec)

/-- 'laws.FnExactSumsOf', WHERE WHAT IT READS IS OF BULK AT MOST 1048576: true; the input reads as it did. -/
def fnExactSumsOfUptoRow : OpenClaim := { program := "ytbagfnppeidonaa", sum := "e002f7f083f2cf8d9d7b7406cab21a36ac7fbcedb31bc44fe7ef89a4afa73dfd", func := "loop.example/g00595/laws.FnExactSumsOf", spec := "fnExactSumsOf", recurses := true, apart := false, narrowed := true }
def FnExactSumsOfUptoSaid : Prop := fnExactSumsOfUptoRow.holds Try.pinned (OpenSpec.upto fnExactSumsOfSpec)

/-- 'laws.FnGaps', WHERE WHAT IT READS IS OF BULK AT MOST 1048576: true; the input reads as it did. -/
def fnGapsUptoRow : OpenClaim := { program := "ytbagfnppeidonaa", sum := "e002f7f083f2cf8d9d7b7406cab21a36ac7fbcedb31bc44fe7ef89a4afa73dfd", func := "loop.example/g00595/laws.FnGaps", spec := "fnGaps", apart := false, narrowed := true }
def FnGapsUptoSaid : Prop := fnGapsUptoRow.holds Try.pinned (OpenSpec.upto fnGapsSpec)

/-- 'laws.FnExactFromElements', WHERE WHAT IT READS IS OF BULK AT MOST 1048576: true; the input reads as it did. -/
def fnExactFromElementsUptoRow : OpenClaim := { program := "ytbagfnppeidonaa", sum := "e002f7f083f2cf8d9d7b7406cab21a36ac7fbcedb31bc44fe7ef89a4afa73dfd", func := "loop.example/g00595/laws.FnExactFromElements", spec := "fnExactFromElements", apart := false, narrowed := true }
def FnExactFromElementsUptoSaid : Prop := fnExactFromElementsUptoRow.holds Try.pinned (OpenSpec.upto fnExactFromElementsSpec)

/-- 'laws.FnFromGaps', WHERE WHAT IT READS IS OF BULK AT MOST 1048576: true; the input reads as it did. -/
def fnFromGapsUptoRow : OpenClaim := { program := "ytbagfnppeidonaa", sum := "e002f7f083f2cf8d9d7b7406cab21a36ac7fbcedb31bc44fe7ef89a4afa73dfd", func := "loop.example/g00595/laws.FnFromGaps", spec := "fnFromGaps", apart := false, narrowed := true }
def FnFromGapsUptoSaid : Prop := fnFromGapsUptoRow.holds Try.pinned (OpenSpec.upto fnFromGapsSpec)

/-- 'laws.FnExactFromGens', WHERE WHAT IT READS IS OF BULK AT MOST 1048576: true; the input reads as it did. -/
def fnExactFromGensUptoRow : OpenClaim := { program := "ytbagfnppeidonaa", sum := "e002f7f083f2cf8d9d7b7406cab21a36ac7fbcedb31bc44fe7ef89a4afa73dfd", func := "loop.example/g00595/laws.FnExactFromGens", spec := "fnExactFromGens", recurses := true, apart := false, narrowed := true }
def FnExactFromGensUptoSaid : Prop := fnExactFromGensUptoRow.holds Try.pinned (OpenSpec.upto fnExactFromGensSpec)

/-- 'laws.FnSemigroups', WHERE WHAT IT READS IS OF BULK AT MOST 1048576: true; the input reads as it did. -/
def fnSemigroupsUptoRow : OpenClaim := { program := "ytbagfnppeidonaa", sum := "e002f7f083f2cf8d9d7b7406cab21a36ac7fbcedb31bc44fe7ef89a4afa73dfd", func := "loop.example/g00595/laws.FnSemigroups", spec := "fnSemigroups", recurses := true, apart := false, narrowed := true }
def FnSemigroupsUptoSaid : Prop := fnSemigroupsUptoRow.holds Try.pinned (OpenSpec.upto fnSemigroupsSpec)

/-- 'laws.FnExactFromApery', WHERE WHAT IT READS IS OF BULK AT MOST 1048576: true; the input reads as it did. -/
def fnExactFromAperyUptoRow : OpenClaim := { program := "ytbagfnppeidonaa", sum := "e002f7f083f2cf8d9d7b7406cab21a36ac7fbcedb31bc44fe7ef89a4afa73dfd", func := "loop.example/g00595/laws.FnExactFromApery", spec := "fnExactFromApery", recurses := true, apart := false, narrowed := true }
def FnExactFromAperyUptoSaid : Prop := fnExactFromAperyUptoRow.holds Try.pinned (OpenSpec.upto fnExactFromAperySpec)

/-- 'laws.FnExactFromCoordinates', WHERE WHAT IT READS IS OF BULK AT MOST 1048576: true; the input reads as it did. -/
def fnExactFromCoordinatesUptoRow : OpenClaim := { program := "ytbagfnppeidonaa", sum := "e002f7f083f2cf8d9d7b7406cab21a36ac7fbcedb31bc44fe7ef89a4afa73dfd", func := "loop.example/g00595/laws.FnExactFromCoordinates", spec := "fnExactFromCoordinates", recurses := true, apart := false, narrowed := true }
def FnExactFromCoordinatesUptoSaid : Prop := fnExactFromCoordinatesUptoRow.holds Try.pinned (OpenSpec.upto fnExactFromCoordinatesSpec)

/-- 'laws.FnSymmetry', WHERE WHAT IT READS IS OF BULK AT MOST 1048576: true; the input reads as it did. -/
def fnSymmetryUptoRow : OpenClaim := { program := "ytbagfnppeidonaa", sum := "e002f7f083f2cf8d9d7b7406cab21a36ac7fbcedb31bc44fe7ef89a4afa73dfd", func := "loop.example/g00595/laws.FnSymmetry", spec := "fnSymmetry", apart := false, narrowed := true }
def FnSymmetryUptoSaid : Prop := fnSymmetryUptoRow.holds Try.pinned (OpenSpec.upto fnSymmetrySpec)

/-- 'laws.FnApery', WHERE WHAT IT READS IS OF BULK AT MOST 1048576: true; the input reads as it did. -/
def fnAperyUptoRow : OpenClaim := { program := "ytbagfnppeidonaa", sum := "e002f7f083f2cf8d9d7b7406cab21a36ac7fbcedb31bc44fe7ef89a4afa73dfd", func := "loop.example/g00595/laws.FnApery", spec := "fnApery", recurses := true, apart := false, narrowed := true }
def FnAperyUptoSaid : Prop := fnAperyUptoRow.holds Try.pinned (OpenSpec.upto fnAperySpec)

end Rows
end Go.Proofs.Ytbagfnppeidonaa
