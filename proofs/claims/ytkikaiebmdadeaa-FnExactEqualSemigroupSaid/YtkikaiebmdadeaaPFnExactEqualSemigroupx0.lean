-- Written by a program of this session (a turned copy of the kit's print; see NOTES.md).
import Derived.Test.YtkikaiebmdadeaaProg
import Derived.Below
import Derived.Deep.Draws
import Derived.Deep.AppendLies
import Derived.Maps.AppendAt
import Derived.OwnWalk
import Derived.Laws.BytesArg
import Derived.Laws.MakeOwn
import Derived.Laws.OwnMore
import Derived.Deep.OwnRows
import Derived.Tactics
import Derived.Lib.ConvBytes
import Derived.Laws.Slices
import Derived.WalkKit
import Derived.KernelRfl
import Derived.RowKit3
import Derived.Deep.LoopGhost
import Derived.Deep.QuietTactic
import Derived.BigQuiet
import Derived.WideLaws
import Derived.Deep.DeepCutAuto
import Derived.Deep.CutBlock
import Derived.Deep.RegionHeld3
import Derived.Laws.Rows
import Derived.Lib.AppendStr
import Derived.ArgAppend
import Derived.Laws.IdiomCopy
import Derived.OrdersHeld
import Derived.Laws.BitsLemmas
import Derived.RowKit
import Derived.Test.YtkikaiebmdadeaaVWords
import Derived.Test.YtkikaiebmdadeaaVLast
import Derived.Test.YtkikaiebmdadeaaVTab
import Derived.Test.YtkikaiebmdadeaaVFour
import Derived.Test.YtkikaiebmdadeaaVQPut
import Derived.Test.YtkikaiebmdadeaaVApart
import Derived.Test.YtkikaiebmdadeaaVArr
import Derived.Test.YtkikaiebmdadeaaVZeros
import Derived.Test.YtkikaiebmdadeaaVFoot
import Derived.Test.YtkikaiebmdadeaaVKept
import Derived.Test.YtkikaiebmdadeaaVShare
import Derived.Test.YtkikaiebmdadeaaVN
import Derived.Test.YtkikaiebmdadeaaVFootNe
import Derived.Test.YtkikaiebmdadeaaVAt
import Derived.Test.YtkikaiebmdadeaaVEqStruct
import Derived.Test.YtkikaiebmdadeaaVRepsOne
import Derived.Test.YtkikaiebmdadeaaVInv
import Derived.Test.YtkikaiebmdadeaaVInvWords
import Derived.Test.YtkikaiebmdadeaaVGuard
import Derived.Test.YtkikaiebmdadeaaVNEv
import Derived.Test.YtkikaiebmdadeaaVMore
namespace Go.Proofs.Ytkikaiebmdadeaa.PFnExactEqualSemigroup
open Go.RowKit Go.Proofs.YtkikaiebmdadeaaW.PrintWords Go.Proofs.YtkikaiebmdadeaaW.PrintLast Go.Proofs.YtkikaiebmdadeaaW.PrintMore
attribute [local go_sem] max2_int min2_int max_two min_two max_three min_three max_four min_four   -- for this text's walks alone
set_option linter.unusedVariables false
set_option linter.unusedSimpArgs false



def errW : Option Int → Value
 | none => .nilIface
 | some c => .iface 0 (.int .i64 c)
theorem errW_none : errW none = .nilIface := rfl
theorem errW_some (c : Int) : errW (some c) = .iface 0 (.int .i64 c) := rfl

theorem info3 : (Try.prog.info? 3).map (fun i => (i.zero, i.size, i.bytes)) = some (some (.int .i64 0), 1, 8) := by kernel_rfl
-- the values' own types

abbrev bA0 : Array Bool := #[false, false, false, false, false, false]
abbrev bA1 : Array Bool := #[true, false, false, false, false, false]
abbrev bA2 : Array Bool := #[true, false, true, false, false, false]
abbrev bA3 : Array Bool := #[true, true, true, false, false, false]
abbrev bA4 : Array Bool := #[true, true, true, true, false, false]
abbrev bA5 : Array Bool := #[true, true, true, true, true, false]
abbrev bA6 : Array Bool := #[true, true, true, true, true, true]
theorem qA {α : Type} (l : List α) (i : Nat) (a : α) : l.toArray.setIfInBounds i a = (l.set i a).toArray := List.setIfInBounds_toArray ..
theorem qB {α : Type} (x : α) (xs : List α) (a : α) : (x :: xs).set 0 a = a :: xs := List.set_cons_zero ..
theorem qC {α : Type} (x : α) (xs : List α) (n : Nat) (a : α) : (x :: xs).set (n + 1) a = x :: xs.set n a := List.set_cons_succ ..
theorem qO (A : Option Addr) (n c : Nat) : (Value.slice A n c).ownBlock = A.map (·.block) := by cases A <;> rfl
end Go.Proofs.Ytkikaiebmdadeaa.PFnExactEqualSemigroup
