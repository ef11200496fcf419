/-
  No cell of these rows narrows 'for every input' (looked for: loops, veiled, ifaces, maps, wideKeys, modest, calm, conditions, laid).
  DERIVED. THE GIVEN ROWS OF THIS SEAT. 9 by the template 'for every input the law returns true; each argument reads behind the call as it read before'; 0 by the template 'total and deterministic' (their statements: YtedbbjglgpdlkaaTotals.lean).
  GIVEN WITH THE SEED: the statements are not yours to turn. If you find one false, say at which input.
  Laid BY PROGRAM, IN A SANDBOX (cutbox-rows.mjs): the forced cells as the released guide's own fill.sh prints them over the translation b57c9eef5442f3a0… (all of the seat's roots in one cut). By AI agents, Wed Nov 11 2026. No macro, syntax, notation, axiom, sorry.
-/
import Derived.Test.YtedbbjglgpdlkaaChecked
import GoSem.Claim
import GoSem.ClaimJoined
import GoSem.ClaimMapViews
import Derived.JoinedTies
import Derived.KernelRfl
namespace Go.Proofs.Ytedbbjglgpdlkaa
/- THE CELL 'sum', in the pinned program and in every row, IS THE sha256 OF THE DUMP (.gsa) THAT YtedbbjglgpdlkaaProg.lean LOADS. Nothing in Lean hashes anything: it is a label: what it is worth is what the hold of that sum in a sandbox is worth. -/
noncomputable def Try.pinned : Pinned := { name := "ytedbbjglgpdlkaa", sum := "b57c9eef5442f3a0af4f66b70e273a1e5eef128aee9faf11b35f1584c2cde09c", checked := Try.checked }
namespace Rows
def none {H : Type} : Left H := { results := [], args := [] }

/-- 'laws.FnExactTypeOf': WHATEVER THE INPUT: true; the input reads as it did. -/
def fnExactTypeOfSpec : ChangeSpec := { name := "fnExactTypeOf", fn := fun _ => fun
  | [d] => { results := [.lit (.bool true)], args := [d] }
  | _ => none }
def fnExactTypeOfRow : OpenClaim := { program := "ytedbbjglgpdlkaa", sum := "b57c9eef5442f3a0af4f66b70e273a1e5eef128aee9faf11b35f1584c2cde09c", func := "loop.example/g00595/laws.FnExactTypeOf", spec := "fnExactTypeOf", apart := false }
def FnExactTypeOfSaid : Prop := fnExactTypeOfRow.holds Try.pinned (OpenSpec.ofChange fnExactTypeOfSpec)

/-- ITS FALSE NEIGHBOUR: 'it returns false'. Refute it at one input. -/
def fnExactTypeOfWrong : ChangeSpec := { name := "fnExactTypeOf", fn := fun _ => fun
  | [d] => { results := [.lit (.bool false)], args := [d] }
  | _ => none }
def FnExactTypeOfWrongFalsely : Prop := fnExactTypeOfRow.holds Try.pinned (OpenSpec.ofChange fnExactTypeOfWrong)

/-- 'laws.FnExactCoordinatesOf': WHATEVER THE INPUT: true; the input reads as it did. -/
def fnExactCoordinatesOfSpec : ChangeSpec := { name := "fnExactCoordinatesOf", fn := fun _ => fun
  | [d] => { results := [.lit (.bool true)], args := [d] }
  | _ => none }
def fnExactCoordinatesOfRow : OpenClaim := { program := "ytedbbjglgpdlkaa", sum := "b57c9eef5442f3a0af4f66b70e273a1e5eef128aee9faf11b35f1584c2cde09c", func := "loop.example/g00595/laws.FnExactCoordinatesOf", spec := "fnExactCoordinatesOf", apart := false }
def FnExactCoordinatesOfSaid : Prop := fnExactCoordinatesOfRow.holds Try.pinned (OpenSpec.ofChange fnExactCoordinatesOfSpec)

/-- ITS FALSE NEIGHBOUR: 'it returns false'. Refute it at one input. -/
def fnExactCoordinatesOfWrong : ChangeSpec := { name := "fnExactCoordinatesOf", fn := fun _ => fun
  | [d] => { results := [.lit (.bool false)], args := [d] }
  | _ => none }
def FnExactCoordinatesOfWrongFalsely : Prop := fnExactCoordinatesOfRow.holds Try.pinned (OpenSpec.ofChange fnExactCoordinatesOfWrong)

/-- 'laws.FnExactPseudoFrobenius': WHATEVER THE INPUT: true; the input reads as it did. -/
def fnExactPseudoFrobeniusSpec : ChangeSpec := { name := "fnExactPseudoFrobenius", fn := fun _ => fun
  | [d] => { results := [.lit (.bool true)], args := [d] }
  | _ => none }
def fnExactPseudoFrobeniusRow : OpenClaim := { program := "ytedbbjglgpdlkaa", sum := "b57c9eef5442f3a0af4f66b70e273a1e5eef128aee9faf11b35f1584c2cde09c", func := "loop.example/g00595/laws.FnExactPseudoFrobenius", spec := "fnExactPseudoFrobenius", apart := false }
def FnExactPseudoFrobeniusSaid : Prop := fnExactPseudoFrobeniusRow.holds Try.pinned (OpenSpec.ofChange fnExactPseudoFrobeniusSpec)

/-- ITS FALSE NEIGHBOUR: 'it returns false'. Refute it at one input. -/
def fnExactPseudoFrobeniusWrong : ChangeSpec := { name := "fnExactPseudoFrobenius", fn := fun _ => fun
  | [d] => { results := [.lit (.bool false)], args := [d] }
  | _ => none }
def FnExactPseudoFrobeniusWrongFalsely : Prop := fnExactPseudoFrobeniusRow.holds Try.pinned (OpenSpec.ofChange fnExactPseudoFrobeniusWrong)

/-- 'laws.FnExactSmallElements': WHATEVER THE INPUT: true; the input reads as it did. -/
def fnExactSmallElementsSpec : ChangeSpec := { name := "fnExactSmallElements", fn := fun _ => fun
  | [d] => { results := [.lit (.bool true)], args := [d] }
  | _ => none }
def fnExactSmallElementsRow : OpenClaim := { program := "ytedbbjglgpdlkaa", sum := "b57c9eef5442f3a0af4f66b70e273a1e5eef128aee9faf11b35f1584c2cde09c", func := "loop.example/g00595/laws.FnExactSmallElements", spec := "fnExactSmallElements", apart := false }
def FnExactSmallElementsSaid : Prop := fnExactSmallElementsRow.holds Try.pinned (OpenSpec.ofChange fnExactSmallElementsSpec)

/-- ITS FALSE NEIGHBOUR: 'it returns false'. Refute it at one input. -/
def fnExactSmallElementsWrong : ChangeSpec := { name := "fnExactSmallElements", fn := fun _ => fun
  | [d] => { results := [.lit (.bool false)], args := [d] }
  | _ => none }
def FnExactSmallElementsWrongFalsely : Prop := fnExactSmallElementsRow.holds Try.pinned (OpenSpec.ofChange fnExactSmallElementsWrong)

/-- 'laws.FnExactSpecialGaps': WHATEVER THE INPUT: true; the input reads as it did. -/
def fnExactSpecialGapsSpec : ChangeSpec := { name := "fnExactSpecialGaps", fn := fun _ => fun
  | [d] => { results := [.lit (.bool true)], args := [d] }
  | _ => none }
def fnExactSpecialGapsRow : OpenClaim := { program := "ytedbbjglgpdlkaa", sum := "b57c9eef5442f3a0af4f66b70e273a1e5eef128aee9faf11b35f1584c2cde09c", func := "loop.example/g00595/laws.FnExactSpecialGaps", spec := "fnExactSpecialGaps", apart := false }
def FnExactSpecialGapsSaid : Prop := fnExactSpecialGapsRow.holds Try.pinned (OpenSpec.ofChange fnExactSpecialGapsSpec)

/-- ITS FALSE NEIGHBOUR: 'it returns false'. Refute it at one input. -/
def fnExactSpecialGapsWrong : ChangeSpec := { name := "fnExactSpecialGaps", fn := fun _ => fun
  | [d] => { results := [.lit (.bool false)], args := [d] }
  | _ => none }
def FnExactSpecialGapsWrongFalsely : Prop := fnExactSpecialGapsRow.holds Try.pinned (OpenSpec.ofChange fnExactSpecialGapsWrong)

/-- 'laws.FnExactFromGaps': WHATEVER THE INPUT: true; the input reads as it did. -/
def fnExactFromGapsSpec : ChangeSpec := { name := "fnExactFromGaps", fn := fun _ => fun
  | [d] => { results := [.lit (.bool true)], args := [d] }
  | _ => none }
def fnExactFromGapsRow : OpenClaim := { program := "ytedbbjglgpdlkaa", sum := "b57c9eef5442f3a0af4f66b70e273a1e5eef128aee9faf11b35f1584c2cde09c", func := "loop.example/g00595/laws.FnExactFromGaps", spec := "fnExactFromGaps", apart := false }
def FnExactFromGapsSaid : Prop := fnExactFromGapsRow.holds Try.pinned (OpenSpec.ofChange fnExactFromGapsSpec)

/-- ITS FALSE NEIGHBOUR: 'it returns false'. Refute it at one input. -/
def fnExactFromGapsWrong : ChangeSpec := { name := "fnExactFromGaps", fn := fun _ => fun
  | [d] => { results := [.lit (.bool false)], args := [d] }
  | _ => none }
def FnExactFromGapsWrongFalsely : Prop := fnExactFromGapsRow.holds Try.pinned (OpenSpec.ofChange fnExactFromGapsWrong)

/-- 'laws.FnExactSortList': WHATEVER THE INPUT: true; the input reads as it did. -/
def fnExactSortListSpec : ChangeSpec := { name := "fnExactSortList", fn := fun _ => fun
  | [d] => { results := [.lit (.bool true)], args := [d] }
  | _ => none }
def fnExactSortListRow : OpenClaim := { program := "ytedbbjglgpdlkaa", sum := "b57c9eef5442f3a0af4f66b70e273a1e5eef128aee9faf11b35f1584c2cde09c", func := "loop.example/g00595/laws.FnExactSortList", spec := "fnExactSortList", recurses := true, apart := false }
def FnExactSortListSaid : Prop := fnExactSortListRow.holds Try.pinned (OpenSpec.ofChange fnExactSortListSpec)

/-- ITS FALSE NEIGHBOUR: 'it returns false'. Refute it at one input. -/
def fnExactSortListWrong : ChangeSpec := { name := "fnExactSortList", fn := fun _ => fun
  | [d] => { results := [.lit (.bool false)], args := [d] }
  | _ => none }
def FnExactSortListWrongFalsely : Prop := fnExactSortListRow.holds Try.pinned (OpenSpec.ofChange fnExactSortListWrong)

/-- 'laws.FnExactSharedOf': WHATEVER THE INPUT: true; the input reads as it did. -/
def fnExactSharedOfSpec : ChangeSpec := { name := "fnExactSharedOf", fn := fun _ => fun
  | [d1, d2] => { results := [.lit (.bool true)], args := [d1, d2] }
  | _ => none }
def fnExactSharedOfRow : OpenClaim := { program := "ytedbbjglgpdlkaa", sum := "b57c9eef5442f3a0af4f66b70e273a1e5eef128aee9faf11b35f1584c2cde09c", func := "loop.example/g00595/laws.FnExactSharedOf", spec := "fnExactSharedOf", recurses := true, apart := false }
def FnExactSharedOfSaid : Prop := fnExactSharedOfRow.holds Try.pinned (OpenSpec.ofChange fnExactSharedOfSpec)

/-- ITS FALSE NEIGHBOUR: 'it returns false'. Refute it at one input. -/
def fnExactSharedOfWrong : ChangeSpec := { name := "fnExactSharedOf", fn := fun _ => fun
  | [d1, d2] => { results := [.lit (.bool false)], args := [d1, d2] }
  | _ => none }
def FnExactSharedOfWrongFalsely : Prop := fnExactSharedOfRow.holds Try.pinned (OpenSpec.ofChange fnExactSharedOfWrong)

/-- 'laws.FnExactSumsOf': WHATEVER THE INPUT: true; the input reads as it did. -/
def fnExactSumsOfSpec : ChangeSpec := { name := "fnExactSumsOf", fn := fun _ => fun
  | [d1, d2] => { results := [.lit (.bool true)], args := [d1, d2] }
  | _ => none }
def fnExactSumsOfRow : OpenClaim := { program := "ytedbbjglgpdlkaa", sum := "b57c9eef5442f3a0af4f66b70e273a1e5eef128aee9faf11b35f1584c2cde09c", func := "loop.example/g00595/laws.FnExactSumsOf", spec := "fnExactSumsOf", recurses := true, apart := false }
def FnExactSumsOfSaid : Prop := fnExactSumsOfRow.holds Try.pinned (OpenSpec.ofChange fnExactSumsOfSpec)

/-- ITS FALSE NEIGHBOUR: 'it returns false'. Refute it at one input. -/
def fnExactSumsOfWrong : ChangeSpec := { name := "fnExactSumsOf", fn := fun _ => fun
  | [d1, d2] => { results := [.lit (.bool false)], args := [d1, d2] }
  | _ => none }
def FnExactSumsOfWrongFalsely : Prop := fnExactSumsOfRow.holds Try.pinned (OpenSpec.ofChange fnExactSumsOfWrong)

/- THE SECOND FORM. 'bulk': how many values and letters a reading holds, each counted each time it is reached (what is shared counts as often as it is met; a slice's spare places count too). A statement '..UptoSaid' is the law's where the arguments, and the package variables that the reading takes, are together of bulk at most 1048576: NARROWER than '..Said'. Prove '..Said' where nothing that the law and all that it calls make is longer than what came in: it says more and counts as full. Else prove '..UptoSaid'. A law counts once. -/
mutual
def uptoBulk {H : Type} : DataW H → Nat
  | .lit (.string bytes) => bytes.length + 1
  | .lit _ => 1
  | .nil => 1
  | .ptr d => uptoBulk d + 1
  | .slice elems spare => uptoBulkAll elems + uptoBulkAll spare + 1
  | .agg parts => uptoBulkAll parts + 1
  | .iface _ d => uptoBulk d + 1
  | .map entries => uptoBulkEntries entries + 1
  | .held _ => 1
def uptoBulkAll {H : Type} : List (DataW H) → Nat
  | [] => 0
  | d :: r => uptoBulk d + uptoBulkAll r
def uptoBulkEntries {H : Type} : List (Lit × DataW H) → Nat
  | [] => 0
  | x :: r => uptoBulkEntry x + uptoBulkEntries r
def uptoBulkEntry {H : Type} : Lit × DataW H → Nat
  | (.string bytes, d) => bytes.length + uptoBulk d + 1
  | (_, d) => uptoBulk d + 1
 end
def uptoSmall : (H : Type) → List (DataW H) → Bool := fun _ ds => decide (uptoBulkAll ds ≤ 1048576)
def OpenSpec.upto (s : _root_.Go.ChangeSpec) : _root_.Go.OpenSpec := { _root_.Go.OpenSpec.ofChange s with cond := some uptoSmall }

/-- 'laws.FnExactTypeOf', WHERE WHAT IT READS IS OF BULK AT MOST 1048576: true; the input reads as it did. -/
def fnExactTypeOfUptoRow : OpenClaim := { program := "ytedbbjglgpdlkaa", sum := "b57c9eef5442f3a0af4f66b70e273a1e5eef128aee9faf11b35f1584c2cde09c", func := "loop.example/g00595/laws.FnExactTypeOf", spec := "fnExactTypeOf", apart := false, narrowed := true }
def FnExactTypeOfUptoSaid : Prop := fnExactTypeOfUptoRow.holds Try.pinned (OpenSpec.upto fnExactTypeOfSpec)

/-- 'laws.FnExactCoordinatesOf', WHERE WHAT IT READS IS OF BULK AT MOST 1048576: true; the input reads as it did. -/
def fnExactCoordinatesOfUptoRow : OpenClaim := { program := "ytedbbjglgpdlkaa", sum := "b57c9eef5442f3a0af4f66b70e273a1e5eef128aee9faf11b35f1584c2cde09c", func := "loop.example/g00595/laws.FnExactCoordinatesOf", spec := "fnExactCoordinatesOf", apart := false, narrowed := true }
def FnExactCoordinatesOfUptoSaid : Prop := fnExactCoordinatesOfUptoRow.holds Try.pinned (OpenSpec.upto fnExactCoordinatesOfSpec)

/-- 'laws.FnExactPseudoFrobenius', WHERE WHAT IT READS IS OF BULK AT MOST 1048576: true; the input reads as it did. -/
def fnExactPseudoFrobeniusUptoRow : OpenClaim := { program := "ytedbbjglgpdlkaa", sum := "b57c9eef5442f3a0af4f66b70e273a1e5eef128aee9faf11b35f1584c2cde09c", func := "loop.example/g00595/laws.FnExactPseudoFrobenius", spec := "fnExactPseudoFrobenius", apart := false, narrowed := true }
def FnExactPseudoFrobeniusUptoSaid : Prop := fnExactPseudoFrobeniusUptoRow.holds Try.pinned (OpenSpec.upto fnExactPseudoFrobeniusSpec)

/-- 'laws.FnExactSmallElements', WHERE WHAT IT READS IS OF BULK AT MOST 1048576: true; the input reads as it did. -/
def fnExactSmallElementsUptoRow : OpenClaim := { program := "ytedbbjglgpdlkaa", sum := "b57c9eef5442f3a0af4f66b70e273a1e5eef128aee9faf11b35f1584c2cde09c", func := "loop.example/g00595/laws.FnExactSmallElements", spec := "fnExactSmallElements", apart := false, narrowed := true }
def FnExactSmallElementsUptoSaid : Prop := fnExactSmallElementsUptoRow.holds Try.pinned (OpenSpec.upto fnExactSmallElementsSpec)

/-- 'laws.FnExactSpecialGaps', WHERE WHAT IT READS IS OF BULK AT MOST 1048576: true; the input reads as it did. -/
def fnExactSpecialGapsUptoRow : OpenClaim := { program := "ytedbbjglgpdlkaa", sum := "b57c9eef5442f3a0af4f66b70e273a1e5eef128aee9faf11b35f1584c2cde09c", func := "loop.example/g00595/laws.FnExactSpecialGaps", spec := "fnExactSpecialGaps", apart := false, narrowed := true }
def FnExactSpecialGapsUptoSaid : Prop := fnExactSpecialGapsUptoRow.holds Try.pinned (OpenSpec.upto fnExactSpecialGapsSpec)

/-- 'laws.FnExactFromGaps', WHERE WHAT IT READS IS OF BULK AT MOST 1048576: true; the input reads as it did. -/
def fnExactFromGapsUptoRow : OpenClaim := { program := "ytedbbjglgpdlkaa", sum := "b57c9eef5442f3a0af4f66b70e273a1e5eef128aee9faf11b35f1584c2cde09c", func := "loop.example/g00595/laws.FnExactFromGaps", spec := "fnExactFromGaps", apart := false, narrowed := true }
def FnExactFromGapsUptoSaid : Prop := fnExactFromGapsUptoRow.holds Try.pinned (OpenSpec.upto fnExactFromGapsSpec)

/-- 'laws.FnExactSortList', WHERE WHAT IT READS IS OF BULK AT MOST 1048576: true; the input reads as it did. -/
def fnExactSortListUptoRow : OpenClaim := { program := "ytedbbjglgpdlkaa", sum := "b57c9eef5442f3a0af4f66b70e273a1e5eef128aee9faf11b35f1584c2cde09c", func := "loop.example/g00595/laws.FnExactSortList", spec := "fnExactSortList", recurses := true, apart := false, narrowed := true }
def FnExactSortListUptoSaid : Prop := fnExactSortListUptoRow.holds Try.pinned (OpenSpec.upto fnExactSortListSpec)

/-- 'laws.FnExactSharedOf', WHERE WHAT IT READS IS OF BULK AT MOST 1048576: true; the input reads as it did. -/
def fnExactSharedOfUptoRow : OpenClaim := { program := "ytedbbjglgpdlkaa", sum := "b57c9eef5442f3a0af4f66b70e273a1e5eef128aee9faf11b35f1584c2cde09c", func := "loop.example/g00595/laws.FnExactSharedOf", spec := "fnExactSharedOf", recurses := true, apart := false, narrowed := true }
def FnExactSharedOfUptoSaid : Prop := fnExactSharedOfUptoRow.holds Try.pinned (OpenSpec.upto fnExactSharedOfSpec)

/-- 'laws.FnExactSumsOf', WHERE WHAT IT READS IS OF BULK AT MOST 1048576: true; the input reads as it did. -/
def fnExactSumsOfUptoRow : OpenClaim := { program := "ytedbbjglgpdlkaa", sum := "b57c9eef5442f3a0af4f66b70e273a1e5eef128aee9faf11b35f1584c2cde09c", func := "loop.example/g00595/laws.FnExactSumsOf", spec := "fnExactSumsOf", recurses := true, apart := false, narrowed := true }
def FnExactSumsOfUptoSaid : Prop := fnExactSumsOfUptoRow.holds Try.pinned (OpenSpec.upto fnExactSumsOfSpec)

end Rows
end Go.Proofs.Ytedbbjglgpdlkaa
