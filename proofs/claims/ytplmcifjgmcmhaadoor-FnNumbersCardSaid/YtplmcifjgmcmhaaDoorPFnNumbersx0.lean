-- Written by a program of this session (a turned copy of the kit's print; see NOTES.md).
import Derived.Test.YtplmcifjgmcmhaaDoorProg
import Derived.Below
import Derived.Deep.Draws
import Derived.Deep.AppendLies
import Derived.Maps.AppendAt
import Derived.OwnWalk
import Derived.Laws.BytesArg
import Derived.Laws.MakeOwn
import Derived.Laws.OwnMore
import Derived.Deep.OwnRows
import Derived.Tactics
import Derived.Lib.ConvBytes
import Derived.Laws.Slices
import Derived.WalkKit
import Derived.KernelRfl
import Derived.RowKit3
import Derived.Deep.LoopGhost
import Derived.Deep.QuietTactic
import Derived.BigQuiet
import Derived.WideLaws
import Derived.Deep.DeepCutAuto
import Derived.Deep.CutBlock
import Derived.Deep.RegionHeld3
import Derived.Laws.Rows
import Derived.Lib.AppendStr
import Derived.ArgAppend
import Derived.Laws.IdiomCopy
import Derived.OrdersHeld
import Derived.Laws.BitsLemmas
import Derived.RowKit
import Derived.Test.YtplmcifjgmcmhaaDoorItoaS
import Derived.Test.YtplmcifjgmcmhaaDoorJoinS
import Derived.Lib.SmallJoins
import Derived.Lib.Slices
import Derived.Test.YtplmcifjgmcmhaaDoorVWords
import Derived.Test.YtplmcifjgmcmhaaDoorVLast
import Derived.Test.YtplmcifjgmcmhaaDoorVTab
import Derived.Test.YtplmcifjgmcmhaaDoorVFour
import Derived.Test.YtplmcifjgmcmhaaDoorVQPut
import Derived.Test.YtplmcifjgmcmhaaDoorVApart
import Derived.Test.YtplmcifjgmcmhaaDoorVArr
import Derived.Test.YtplmcifjgmcmhaaDoorVZeros
import Derived.Test.YtplmcifjgmcmhaaDoorVFoot
import Derived.Test.YtplmcifjgmcmhaaDoorVKept
import Derived.Test.YtplmcifjgmcmhaaDoorVShare
import Derived.Test.YtplmcifjgmcmhaaDoorVN
import Derived.Test.YtplmcifjgmcmhaaDoorVFootNe
import Derived.Test.YtplmcifjgmcmhaaDoorVAt
import Derived.Test.YtplmcifjgmcmhaaDoorVEqStruct
import Derived.Test.YtplmcifjgmcmhaaDoorVRepsOne
import Derived.Test.YtplmcifjgmcmhaaDoorVInv
import Derived.Test.YtplmcifjgmcmhaaDoorVInvWords
import Derived.Test.YtplmcifjgmcmhaaDoorVGuard
import Derived.Test.YtplmcifjgmcmhaaDoorVNEv
import Derived.Test.YtplmcifjgmcmhaaDoorVMore
namespace Go.Proofs.YtplmcifjgmcmhaaDoor.PFnNumbers
open Go.RowKit Go.Proofs.YtplmcifjgmcmhaaDoorW.PrintWords Go.Proofs.YtplmcifjgmcmhaaDoorW.PrintLast Go.Proofs.YtplmcifjgmcmhaaDoorW.PrintMore
attribute [local go_sem] max2_int min2_int max_two min_two max_three min_three max_four min_four   -- for this text's walks alone
set_option linter.unusedVariables false
set_option linter.unusedSimpArgs false



def errW : Option Int → Value
 | none => .nilIface
 | some c => .iface 0 (.int .i64 c)
theorem errW_none : errW none = .nilIface := rfl
theorem errW_some (c : Int) : errW (some c) = .iface 0 (.int .i64 c) := rfl

theorem info3 : (Tryd.prog.info? 3).map (fun i => (i.zero, i.size, i.bytes)) = some (some (.int .i64 0), 1, 8) := by kernel_rfl
theorem info5 : (Tryd.prog.info? 5).map (fun i => (i.zero, i.size, i.bytes)) = some (some (.int .u8 0), 1, 1) := by kernel_rfl
theorem info9 : (Tryd.prog.info? 9).map (fun i => (i.zero, i.size, i.bytes)) = some (some (.string ⟨#[]⟩), 1, 16) := by kernel_rfl
-- the values' own types

theorem qA {α : Type} (l : List α) (i : Nat) (a : α) : l.toArray.setIfInBounds i a = (l.set i a).toArray := List.setIfInBounds_toArray ..
theorem qB {α : Type} (x : α) (xs : List α) (a : α) : (x :: xs).set 0 a = a :: xs := List.set_cons_zero ..
theorem qC {α : Type} (x : α) (xs : List α) (n : Nat) (a : α) : (x :: xs).set (n + 1) a = x :: xs.set n a := List.set_cons_succ ..
theorem qO (A : Option Addr) (n c : Nat) : (Value.slice A n c).ownBlock = A.map (·.block) := by cases A <;> rfl
end Go.Proofs.YtplmcifjgmcmhaaDoor.PFnNumbers
