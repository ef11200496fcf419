/-
  No cell of these rows narrows 'for every input' (looked for: loops, veiled, ifaces, maps, wideKeys, modest, calm, conditions, laid).
  DERIVED. THE GIVEN ROWS OF THIS SEAT. 6 by the template 'for every input the law returns true; each argument reads behind the call as it read before'; 0 by the template 'total and deterministic' (their statements: YtdccejocahnjfaaTotals.lean).
  GIVEN WITH THE SEED: the statements are not yours to turn. If you find one false, say at which input.
  Laid BY PROGRAM, IN A SANDBOX (cutbox-rows.mjs): the forced cells as the released guide's own fill.sh prints them over the translation 4cbd7c139e1acef3… (all of the seat's roots in one cut). By AI agents, Wed Nov 11 2026. No macro, syntax, notation, axiom, sorry.
-/
import Derived.Test.YtdccejocahnjfaaChecked
import GoSem.Claim
import GoSem.ClaimJoined
import GoSem.ClaimMapViews
import Derived.JoinedTies
import Derived.KernelRfl
namespace Go.Proofs.Ytdccejocahnjfaa
/- THE CELL 'sum', in the pinned program and in every row, IS THE sha256 OF THE DUMP (.gsa) THAT YtdccejocahnjfaaProg.lean LOADS. Nothing in Lean hashes anything: it is a label: what it is worth is what the hold of that sum in a sandbox is worth. -/
noncomputable def Try.pinned : Pinned := { name := "ytdccejocahnjfaa", sum := "4cbd7c139e1acef33e692b09e441d99c458f8bc39039d4bb3a8821d3db24ad2b", checked := Try.checked }
namespace Rows
def none {H : Type} : Left H := { results := [], args := [] }

/-- 'laws.FnExactConstants': WHATEVER THE INPUT: true; the input reads as it did. -/
def fnExactConstantsSpec : ChangeSpec := { name := "fnExactConstants", fn := fun _ => fun
  | [] => { results := [.lit (.bool true)], args := [] }
  | _ => none }
def fnExactConstantsRow : OpenClaim := { program := "ytdccejocahnjfaa", sum := "4cbd7c139e1acef33e692b09e441d99c458f8bc39039d4bb3a8821d3db24ad2b", func := "loop.example/g00595/laws.FnExactConstants", spec := "fnExactConstants", apart := false }
def FnExactConstantsSaid : Prop := fnExactConstantsRow.holds Try.pinned (OpenSpec.ofChange fnExactConstantsSpec)

/-- ITS FALSE NEIGHBOUR: 'it returns false'. Refute it at one input. -/
def fnExactConstantsWrong : ChangeSpec := { name := "fnExactConstants", fn := fun _ => fun
  | [] => { results := [.lit (.bool false)], args := [] }
  | _ => none }
def FnExactConstantsWrongFalsely : Prop := fnExactConstantsRow.holds Try.pinned (OpenSpec.ofChange fnExactConstantsWrong)

/-- 'laws.FnExactIsAscending': WHATEVER THE INPUT: true; the input reads as it did. -/
def fnExactIsAscendingSpec : ChangeSpec := { name := "fnExactIsAscending", fn := fun _ => fun
  | [d] => { results := [.lit (.bool true)], args := [d] }
  | _ => none }
def fnExactIsAscendingRow : OpenClaim := { program := "ytdccejocahnjfaa", sum := "4cbd7c139e1acef33e692b09e441d99c458f8bc39039d4bb3a8821d3db24ad2b", func := "loop.example/g00595/laws.FnExactIsAscending", spec := "fnExactIsAscending", apart := false }
def FnExactIsAscendingSaid : Prop := fnExactIsAscendingRow.holds Try.pinned (OpenSpec.ofChange fnExactIsAscendingSpec)

/-- ITS FALSE NEIGHBOUR: 'it returns false'. Refute it at one input. -/
def fnExactIsAscendingWrong : ChangeSpec := { name := "fnExactIsAscending", fn := fun _ => fun
  | [d] => { results := [.lit (.bool false)], args := [d] }
  | _ => none }
def FnExactIsAscendingWrongFalsely : Prop := fnExactIsAscendingRow.holds Try.pinned (OpenSpec.ofChange fnExactIsAscendingWrong)

/-- 'laws.FnExactHasNumber': WHATEVER THE INPUT: true; the input reads as it did. -/
def fnExactHasNumberSpec : ChangeSpec := { name := "fnExactHasNumber", fn := fun _ => fun
  | [d1, d2] => { results := [.lit (.bool true)], args := [d1, d2] }
  | _ => none }
def fnExactHasNumberRow : OpenClaim := { program := "ytdccejocahnjfaa", sum := "4cbd7c139e1acef33e692b09e441d99c458f8bc39039d4bb3a8821d3db24ad2b", func := "loop.example/g00595/laws.FnExactHasNumber", spec := "fnExactHasNumber", apart := false }
def FnExactHasNumberSaid : Prop := fnExactHasNumberRow.holds Try.pinned (OpenSpec.ofChange fnExactHasNumberSpec)

/-- ITS FALSE NEIGHBOUR: 'it returns false'. Refute it at one input. -/
def fnExactHasNumberWrong : ChangeSpec := { name := "fnExactHasNumber", fn := fun _ => fun
  | [d1, d2] => { results := [.lit (.bool false)], args := [d1, d2] }
  | _ => none }
def FnExactHasNumberWrongFalsely : Prop := fnExactHasNumberRow.holds Try.pinned (OpenSpec.ofChange fnExactHasNumberWrong)

/-- 'laws.FnExactGcdOf': WHATEVER THE INPUT: true; the input reads as it did. -/
def fnExactGcdOfSpec : ChangeSpec := { name := "fnExactGcdOf", fn := fun _ => fun
  | [d1, d2] => { results := [.lit (.bool true)], args := [d1, d2] }
  | _ => none }
def fnExactGcdOfRow : OpenClaim := { program := "ytdccejocahnjfaa", sum := "4cbd7c139e1acef33e692b09e441d99c458f8bc39039d4bb3a8821d3db24ad2b", func := "loop.example/g00595/laws.FnExactGcdOf", spec := "fnExactGcdOf", apart := false }
def FnExactGcdOfSaid : Prop := fnExactGcdOfRow.holds Try.pinned (OpenSpec.ofChange fnExactGcdOfSpec)

/-- ITS FALSE NEIGHBOUR: 'it returns false'. Refute it at one input. -/
def fnExactGcdOfWrong : ChangeSpec := { name := "fnExactGcdOf", fn := fun _ => fun
  | [d1, d2] => { results := [.lit (.bool false)], args := [d1, d2] }
  | _ => none }
def FnExactGcdOfWrongFalsely : Prop := fnExactGcdOfRow.holds Try.pinned (OpenSpec.ofChange fnExactGcdOfWrong)

/-- 'laws.FnExactSplitByte': WHATEVER THE INPUT: true; the input reads as it did. -/
def fnExactSplitByteSpec : ChangeSpec := { name := "fnExactSplitByte", fn := fun _ => fun
  | [d1, d2] => { results := [.lit (.bool true)], args := [d1, d2] }
  | _ => none }
def fnExactSplitByteRow : OpenClaim := { program := "ytdccejocahnjfaa", sum := "4cbd7c139e1acef33e692b09e441d99c458f8bc39039d4bb3a8821d3db24ad2b", func := "loop.example/g00595/laws.FnExactSplitByte", spec := "fnExactSplitByte", apart := false }
def FnExactSplitByteSaid : Prop := fnExactSplitByteRow.holds Try.pinned (OpenSpec.ofChange fnExactSplitByteSpec)

/-- ITS FALSE NEIGHBOUR: 'it returns false'. Refute it at one input. -/
def fnExactSplitByteWrong : ChangeSpec := { name := "fnExactSplitByte", fn := fun _ => fun
  | [d1, d2] => { results := [.lit (.bool false)], args := [d1, d2] }
  | _ => none }
def FnExactSplitByteWrongFalsely : Prop := fnExactSplitByteRow.holds Try.pinned (OpenSpec.ofChange fnExactSplitByteWrong)

/-- 'laws.FnExactCoordinateClash': WHATEVER THE INPUT: true; the input reads as it did. -/
def fnExactCoordinateClashSpec : ChangeSpec := { name := "fnExactCoordinateClash", fn := fun _ => fun
  | [d] => { results := [.lit (.bool true)], args := [d] }
  | _ => none }
def fnExactCoordinateClashRow : OpenClaim := { program := "ytdccejocahnjfaa", sum := "4cbd7c139e1acef33e692b09e441d99c458f8bc39039d4bb3a8821d3db24ad2b", func := "loop.example/g00595/laws.FnExactCoordinateClash", spec := "fnExactCoordinateClash", apart := false }
def FnExactCoordinateClashSaid : Prop := fnExactCoordinateClashRow.holds Try.pinned (OpenSpec.ofChange fnExactCoordinateClashSpec)

/-- ITS FALSE NEIGHBOUR: 'it returns false'. Refute it at one input. -/
def fnExactCoordinateClashWrong : ChangeSpec := { name := "fnExactCoordinateClash", fn := fun _ => fun
  | [d] => { results := [.lit (.bool false)], args := [d] }
  | _ => none }
def FnExactCoordinateClashWrongFalsely : Prop := fnExactCoordinateClashRow.holds Try.pinned (OpenSpec.ofChange fnExactCoordinateClashWrong)

/- THE SECOND FORM. 'bulk': how many values and letters a reading holds, each counted each time it is reached (what is shared counts as often as it is met; a slice's spare places count too). A statement '..UptoSaid' is the law's where the arguments, and the package variables that the reading takes, are together of bulk at most 1048576: NARROWER than '..Said'. Prove '..Said' where nothing that the law and all that it calls make is longer than what came in: it says more and counts as full. Else prove '..UptoSaid'. A law counts once. -/
mutual
def uptoBulk {H : Type} : DataW H → Nat
  | .lit (.string bytes) => bytes.length + 1
  | .lit _ => 1
  | .nil => 1
  | .ptr d => uptoBulk d + 1
  | .slice elems spare => uptoBulkAll elems + uptoBulkAll spare + 1
  | .agg parts => uptoBulkAll parts + 1
  | .iface _ d => uptoBulk d + 1
  | .map entries => uptoBulkEntries entries + 1
  | .held _ => 1
def uptoBulkAll {H : Type} : List (DataW H) → Nat
  | [] => 0
  | d :: r => uptoBulk d + uptoBulkAll r
def uptoBulkEntries {H : Type} : List (Lit × DataW H) → Nat
  | [] => 0
  | x :: r => uptoBulkEntry x + uptoBulkEntries r
def uptoBulkEntry {H : Type} : Lit × DataW H → Nat
  | (.string bytes, d) => bytes.length + uptoBulk d + 1
  | (_, d) => uptoBulk d + 1
 end
def uptoSmall : (H : Type) → List (DataW H) → Bool := fun _ ds => decide (uptoBulkAll ds ≤ 1048576)
def OpenSpec.upto (s : _root_.Go.ChangeSpec) : _root_.Go.OpenSpec := { _root_.Go.OpenSpec.ofChange s with cond := some uptoSmall }

/-- 'laws.FnExactConstants', WHERE WHAT IT READS IS OF BULK AT MOST 1048576: true; the input reads as it did. -/
def fnExactConstantsUptoRow : OpenClaim := { program := "ytdccejocahnjfaa", sum := "4cbd7c139e1acef33e692b09e441d99c458f8bc39039d4bb3a8821d3db24ad2b", func := "loop.example/g00595/laws.FnExactConstants", spec := "fnExactConstants", apart := false, narrowed := true }
def FnExactConstantsUptoSaid : Prop := fnExactConstantsUptoRow.holds Try.pinned (OpenSpec.upto fnExactConstantsSpec)

/-- 'laws.FnExactIsAscending', WHERE WHAT IT READS IS OF BULK AT MOST 1048576: true; the input reads as it did. -/
def fnExactIsAscendingUptoRow : OpenClaim := { program := "ytdccejocahnjfaa", sum := "4cbd7c139e1acef33e692b09e441d99c458f8bc39039d4bb3a8821d3db24ad2b", func := "loop.example/g00595/laws.FnExactIsAscending", spec := "fnExactIsAscending", apart := false, narrowed := true }
def FnExactIsAscendingUptoSaid : Prop := fnExactIsAscendingUptoRow.holds Try.pinned (OpenSpec.upto fnExactIsAscendingSpec)

/-- 'laws.FnExactHasNumber', WHERE WHAT IT READS IS OF BULK AT MOST 1048576: true; the input reads as it did. -/
def fnExactHasNumberUptoRow : OpenClaim := { program := "ytdccejocahnjfaa", sum := "4cbd7c139e1acef33e692b09e441d99c458f8bc39039d4bb3a8821d3db24ad2b", func := "loop.example/g00595/laws.FnExactHasNumber", spec := "fnExactHasNumber", apart := false, narrowed := true }
def FnExactHasNumberUptoSaid : Prop := fnExactHasNumberUptoRow.holds Try.pinned (OpenSpec.upto fnExactHasNumberSpec)

/-- 'laws.FnExactGcdOf', WHERE WHAT IT READS IS OF BULK AT MOST 1048576: true; the input reads as it did. -/
def fnExactGcdOfUptoRow : OpenClaim := { program := "ytdccejocahnjfaa", sum := "4cbd7c139e1acef33e692b09e441d99c458f8bc39039d4bb3a8821d3db24ad2b", func := "loop.example/g00595/laws.FnExactGcdOf", spec := "fnExactGcdOf", apart := false, narrowed := true }
def FnExactGcdOfUptoSaid : Prop := fnExactGcdOfUptoRow.holds Try.pinned (OpenSpec.upto fnExactGcdOfSpec)

/-- 'laws.FnExactSplitByte', WHERE WHAT IT READS IS OF BULK AT MOST 1048576: true; the input reads as it did. -/
def fnExactSplitByteUptoRow : OpenClaim := { program := "ytdccejocahnjfaa", sum := "4cbd7c139e1acef33e692b09e441d99c458f8bc39039d4bb3a8821d3db24ad2b", func := "loop.example/g00595/laws.FnExactSplitByte", spec := "fnExactSplitByte", apart := false, narrowed := true }
def FnExactSplitByteUptoSaid : Prop := fnExactSplitByteUptoRow.holds Try.pinned (OpenSpec.upto fnExactSplitByteSpec)

/-- 'laws.FnExactCoordinateClash', WHERE WHAT IT READS IS OF BULK AT MOST 1048576: true; the input reads as it did. -/
def fnExactCoordinateClashUptoRow : OpenClaim := { program := "ytdccejocahnjfaa", sum := "4cbd7c139e1acef33e692b09e441d99c458f8bc39039d4bb3a8821d3db24ad2b", func := "loop.example/g00595/laws.FnExactCoordinateClash", spec := "fnExactCoordinateClash", apart := false, narrowed := true }
def FnExactCoordinateClashUptoSaid : Prop := fnExactCoordinateClashUptoRow.holds Try.pinned (OpenSpec.upto fnExactCoordinateClashSpec)

end Rows
end Go.Proofs.Ytdccejocahnjfaa
