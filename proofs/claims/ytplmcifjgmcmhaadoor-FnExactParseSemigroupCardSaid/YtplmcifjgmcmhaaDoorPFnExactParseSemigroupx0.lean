-- Written by a program of this session (a turned copy of the kit's print; see NOTES.md).
import Derived.Test.YtplmcifjgmcmhaaDoorProg
import Derived.Below
import Derived.Deep.Draws
import Derived.Deep.AppendLies
import Derived.Maps.AppendAt
import Derived.OwnWalk
import Derived.Laws.BytesArg
import Derived.Laws.MakeOwn
import Derived.Laws.OwnMore
import Derived.Deep.OwnRows
import Derived.Tactics
import Derived.Lib.ConvBytes
import Derived.Laws.Slices
import Derived.WalkKit
import Derived.KernelRfl
import Derived.RowKit3
import Derived.Deep.LoopGhost
import Derived.Deep.QuietTactic
import Derived.BigQuiet
import Derived.WideLaws
import Derived.Deep.DeepCutAuto
import Derived.Deep.CutBlock
import Derived.Deep.RegionHeld3
import Derived.Laws.Rows
import Derived.Lib.AppendStr
import Derived.ArgAppend
import Derived.Laws.IdiomCopy
import Derived.OrdersHeld
import Derived.Laws.BitsLemmas
import Derived.RowKit
import Derived.Test.YtplmcifjgmcmhaaDoorItoaS
import Derived.Test.YtplmcifjgmcmhaaDoorJoinS
import Derived.Lib.SmallJoins
import Derived.Lib.Slices
import Derived.Test.YtplmcifjgmcmhaaDoorVWords
import Derived.Test.YtplmcifjgmcmhaaDoorVLast
import Derived.Test.YtplmcifjgmcmhaaDoorVTab
import Derived.Test.YtplmcifjgmcmhaaDoorVFour
import Derived.Test.YtplmcifjgmcmhaaDoorVQPut
import Derived.Test.YtplmcifjgmcmhaaDoorVApart
import Derived.Test.YtplmcifjgmcmhaaDoorVArr
import Derived.Test.YtplmcifjgmcmhaaDoorVZeros
import Derived.Test.YtplmcifjgmcmhaaDoorVFoot
import Derived.Test.YtplmcifjgmcmhaaDoorVKept
import Derived.Test.YtplmcifjgmcmhaaDoorVShare
import Derived.Test.YtplmcifjgmcmhaaDoorVN
import Derived.Test.YtplmcifjgmcmhaaDoorVFootNe
import Derived.Test.YtplmcifjgmcmhaaDoorVAt
import Derived.Test.YtplmcifjgmcmhaaDoorVEqStruct
import Derived.Test.YtplmcifjgmcmhaaDoorVRepsOne
import Derived.Test.YtplmcifjgmcmhaaDoorVInv
import Derived.Test.YtplmcifjgmcmhaaDoorVInvWords
import Derived.Test.YtplmcifjgmcmhaaDoorVGuard
import Derived.Test.YtplmcifjgmcmhaaDoorVNEv
import Derived.Test.YtplmcifjgmcmhaaDoorVMore
namespace Go.Proofs.YtplmcifjgmcmhaaDoor.PFnExactParseSemigroup
open Go.RowKit Go.Proofs.YtplmcifjgmcmhaaDoorW.PrintWords Go.Proofs.YtplmcifjgmcmhaaDoorW.PrintLast Go.Proofs.YtplmcifjgmcmhaaDoorW.PrintMore
attribute [local go_sem] max2_int min2_int max_two min_two max_three min_three max_four min_four   -- for this text's walks alone
set_option linter.unusedVariables false
set_option linter.unusedSimpArgs false



def errW : Option Int → Value
 | none => .nilIface
 | some c => .iface 0 (.int .i64 c)
theorem errW_none : errW none = .nilIface := rfl
theorem errW_some (c : Int) : errW (some c) = .iface 0 (.int .i64 c) := rfl

theorem info3 : (Tryd.prog.info? 3).map (fun i => (i.zero, i.size, i.bytes)) = some (some (.int .i64 0), 1, 8) := by kernel_rfl
theorem info4 : (Tryd.prog.info? 4).map (fun i => (i.zero, i.size, i.bytes)) = some (some (.bool false), 1, 1) := by kernel_rfl
theorem info5 : (Tryd.prog.info? 5).map (fun i => (i.zero, i.size, i.bytes)) = some (some (.int .u8 0), 1, 1) := by kernel_rfl
theorem info9 : (Tryd.prog.info? 9).map (fun i => (i.zero, i.size, i.bytes)) = some (some (.string ⟨#[]⟩), 1, 16) := by kernel_rfl
-- the values' own types

abbrev bA0 : Array Bool := #[false, false, false, false, false, false, false, false, false, false, false, false, false, false, false, false, false, false, false, false, false, false, false, false, false, false, false, false, false, false, false, false, false, false]
abbrev bA1 : Array Bool := #[false, false, false, false, false, false, false, false, false, false, false, false, false, false, false, false, false, false, false]
abbrev bA2 : Array Bool := #[false, false, false, false, false, false, false, false, false, false, false, false, false, false]
abbrev bA3 : Array Bool := #[false, false, false, false, false, false, false, false, false, false, false, false, false]
abbrev bA4 : Array Bool := #[false, false, false, false, false, false, false, false, false, false, false, false]
abbrev bA5 : Array Bool := #[true, false, false, false, false, false, false, false, false, false, false, false, false, false, false, false, false, false, false, false, false, false, false, false, false, false, false, false, false, false, false, false, false, false]
abbrev bA6 : Array Bool := #[true, false, false, false, false, false, false, false, false, false, false, false, false, false, false, false, false, false, false]
abbrev bA7 : Array Bool := #[true, false, false, false, false, false, false, false, false, false, false, false, false, false]
abbrev bA8 : Array Bool := #[true, false, false, false, false, false, false, false, false, false, false, false, false]
abbrev bA9 : Array Bool := #[true, false, false, false, false, false, false, false, false, false, false, false]
abbrev bA10 : Array Bool := #[true, true, false, false, false, false, false, false, false, false, false, false, false, false, false, false, false, false, false, false, false, false, false, false, false, false, false, false, false, false, false, false, false, false]
abbrev bA11 : Array Bool := #[true, true, false, false, false, false, false, false, false, false, false, false, false, false, false, false, false, false, false]
abbrev bA12 : Array Bool := #[true, true, false, false, false, false, false, false, false, false, false, false, false, false]
abbrev bA13 : Array Bool := #[true, true, false, false, false, false, false, false, false, false, false, false, false]
abbrev bA14 : Array Bool := #[true, true, false, false, false, false, false, false, false, false, false, false]
abbrev bA15 : Array Bool := #[true, true, true, false, false, false, false, false, false, false, false, false, false, false, false, false, false, false, false, false, false, false, false, false, false, false, false, false, false, false, false, false, false, false]
abbrev bA16 : Array Bool := #[true, true, true, false, false, false, false, false, false, false, false, false, false, false, false, false, false, false, false]
abbrev bA17 : Array Bool := #[true, true, true, false, false, false, false, false, false, false, false, false, false, false]
abbrev bA18 : Array Bool := #[true, true, true, false, false, false, false, false, false, false, false, false, false]
abbrev bA19 : Array Bool := #[true, true, true, false, false, false, false, false, false, false, false, false]
abbrev bA20 : Array Bool := #[true, true, true, false, false, true, false, false, false, false, false, false, false]
abbrev bA21 : Array Bool := #[true, true, true, false, false, true, true, false, false, false, false, false, false]
abbrev bA22 : Array Bool := #[true, true, true, false, false, true, true, true, false, false, false, false, false]
abbrev bA23 : Array Bool := #[true, true, true, true, false, false, false, false, false, false, false, false, false, false, false, false, false, false, false, false, false, false, false, false, false, false, false, false, false, false, false, false, false, false]
abbrev bA24 : Array Bool := #[true, true, true, true, false, false, false, false, false, false, false, false, false, false, false, false, false, false, false]
abbrev bA25 : Array Bool := #[true, true, true, true, false, false, false, false, false, false, false, false, false, false]
abbrev bA26 : Array Bool := #[true, true, true, true, false, false, false, false, false, false, false, false]
abbrev bA27 : Array Bool := #[true, true, true, true, false, true, true, true, false, false, false, false, false]
abbrev bA28 : Array Bool := #[true, true, true, true, false, true, true, true, true, false, false, false, false]
abbrev bA29 : Array Bool := #[true, true, true, true, false, true, true, true, true, true, false, false, false]
abbrev bA30 : Array Bool := #[true, true, true, true, true, false, false, false, false, false, false, false, false, false, false, false, false, false, false, false, false, false, false, false, false, false, false, false, false, false, false, false, false, false]
abbrev bA31 : Array Bool := #[true, true, true, true, true, false, false, false, false, false, false, false, false, false, false, false, false, false, false]
abbrev bA32 : Array Bool := #[true, true, true, true, true, false, false, false, false, false, false, false, false, false]
abbrev bA33 : Array Bool := #[true, true, true, true, true, false, false, false, false, false, false, false]
abbrev bA34 : Array Bool := #[true, true, true, true, true, true, false, false, false, false, false, false, false, false, false, false, false, false, false, false, false, false, false, false, false, false, false, false, false, false, false, false, false, false]
abbrev bA35 : Array Bool := #[true, true, true, true, true, true, false, false, false, false, false, false, false, false, false, false, false, false, false]
abbrev bA36 : Array Bool := #[true, true, true, true, true, true, false, false, false, false, false, false, false, false]
abbrev bA37 : Array Bool := #[true, true, true, true, true, true, false, false, false, false, false, false]
abbrev bA38 : Array Bool := #[true, true, true, true, true, true, false, false, false, true, false, false]
abbrev bA39 : Array Bool := #[true, true, true, true, true, true, true, false, false, false, false, false, false, false, false, false, false, false, false, false, false, false, false, false, false, false, false, false, false, false, false, false, false, false]
abbrev bA40 : Array Bool := #[true, true, true, true, true, true, true, false, false, false, false, false, false, false, false, false, false, false, false]
abbrev bA41 : Array Bool := #[true, true, true, true, true, true, true, false, false, false, false, false, false, false]
abbrev bA42 : Array Bool := #[true, true, true, true, true, true, true, false, false, true, false, false]
abbrev bA43 : Array Bool := #[true, true, true, true, true, true, true, false, true, false, false, false, false, false]
abbrev bA44 : Array Bool := #[true, true, true, true, true, true, true, false, true, true, false, false, false, false]
abbrev bA45 : Array Bool := #[true, true, true, true, true, true, true, false, true, true, true, false, false, false]
abbrev bA46 : Array Bool := #[true, true, true, true, true, true, true, true, false, false, false, false, false, false, false, false, false, false, false, false, false, false, false, false, false, false, false, false, false, false, false, false, false, false]
abbrev bA47 : Array Bool := #[true, true, true, true, true, true, true, true, false, false, false, false, false, false, false, false, false, false, false]
abbrev bA48 : Array Bool := #[true, true, true, true, true, true, true, true, false, false, false, false, false, false]
abbrev bA49 : Array Bool := #[true, true, true, true, true, true, true, true, false, true, false, false]
abbrev bA50 : Array Bool := #[true, true, true, true, true, true, true, true, true, false, false, false, false, false, false, false, false, false, false, false, false, false, false, false, false, false, false, false, false, false, false, false, false, false]
abbrev bA51 : Array Bool := #[true, true, true, true, true, true, true, true, true, false, false, false, false, false, false, false, false, false, false]
abbrev bA52 : Array Bool := #[true, true, true, true, true, true, true, true, true, false, false, false, false, false]
abbrev bA53 : Array Bool := #[true, true, true, true, true, true, true, true, true, true, false, false, false, false, false, false, false, false, false, false, false, false, false, false, false, false, false, false, false, false, false, false, false, false]
abbrev bA54 : Array Bool := #[true, true, true, true, true, true, true, true, true, true, false, false, false, false]
abbrev bA55 : Array Bool := #[true, true, true, true, true, true, true, true, true, true, false, false, false]
abbrev bA56 : Array Bool := #[true, true, true, true, true, true, true, true, true, true, false, false]
abbrev bA57 : Array Bool := #[true, true, true, true, true, true, true, true, true, true, true, false, false, false, false, false, false, false, false, false, false, false, false, false, false, false, false, false, false, false, false, false, false, false]
abbrev bA58 : Array Bool := #[true, true, true, true, true, true, true, true, true, true, true, false, false, false]
abbrev bA59 : Array Bool := #[true, true, true, true, true, true, true, true, true, true, true, false, false]
abbrev bA60 : Array Bool := #[true, true, true, true, true, true, true, true, true, true, true, false]
abbrev bA61 : Array Bool := #[true, true, true, true, true, true, true, true, true, true, true, true, false, false, false, false, false, false, false, false, false, false, false, false, false, false, false, false, false, false, false, false, false, false]
abbrev bA62 : Array Bool := #[true, true, true, true, true, true, true, true, true, true, true, true, false, false]
abbrev bA63 : Array Bool := #[true, true, true, true, true, true, true, true, true, true, true, true, false]
abbrev bA64 : Array Bool := #[true, true, true, true, true, true, true, true, true, true, true, true, true, false, false, false, false, false, false, false, false, false, false, false, false, false, false, false, false, false, false, false, false, false]
abbrev bA65 : Array Bool := #[true, true, true, true, true, true, true, true, true, true, true, true, true, false]
abbrev bA66 : Array Bool := #[true, true, true, true, true, true, true, true, true, true, true, true, true, true, false, false, false, false, false, false, false, false, false, false, false, false, false, false, false, false, false, false, false, false]
abbrev bA67 : Array Bool := #[true, true, true, true, true, true, true, true, true, true, true, true, true, true, true, false, false, false, false, false, false, false, false, false, false, false, false, false, false, false, false, false, false, false]
abbrev bA68 : Array Bool := #[true, true, true, true, true, true, true, true, true, true, true, true, true, true, true, false, false, false, false]
abbrev bA69 : Array Bool := #[true, true, true, true, true, true, true, true, true, true, true, true, true, true, true, true, false, false, false, false, false, false, false, false, false, false, false, false, false, false, false, false, false, false]
abbrev bA70 : Array Bool := #[true, true, true, true, true, true, true, true, true, true, true, true, true, true, true, true, false, false, false]
abbrev bA71 : Array Bool := #[true, true, true, true, true, true, true, true, true, true, true, true, true, true, true, true, true, false, false, false, false, false, false, false, false, false, false, false, false, false, false, false, false, false]
abbrev bA72 : Array Bool := #[true, true, true, true, true, true, true, true, true, true, true, true, true, true, true, true, true, false, false]
abbrev bA73 : Array Bool := #[true, true, true, true, true, true, true, true, true, true, true, true, true, true, true, true, true, true, false, false, false, false, false, false, false, false, false, false, false, false, false, false, false, false]
abbrev bA74 : Array Bool := #[true, true, true, true, true, true, true, true, true, true, true, true, true, true, true, true, true, true, false]
abbrev bA75 : Array Bool := #[true, true, true, true, true, true, true, true, true, true, true, true, true, true, true, true, true, true, true, false, false, false, false, false, false, false, false, false, false, false, false, false, false, false]
abbrev bA76 : Array Bool := #[true, true, true, true, true, true, true, true, true, true, true, true, true, true, true, true, true, true, true, true, false, false, false, false, false, false, false, false, false, false, false, false, false, false]
abbrev bA77 : Array Bool := #[true, true, true, true, true, true, true, true, true, true, true, true, true, true, true, true, true, true, true, true, true, false, false, false, false, false, false, false, false, false, false, false, false, false]
abbrev bA78 : Array Bool := #[true, true, true, true, true, true, true, true, true, true, true, true, true, true, true, true, true, true, true, true, true, true, false, false, false, false, false, false, false, false, false, false, false, false]
abbrev bA79 : Array Bool := #[true, true, true, true, true, true, true, true, true, true, true, true, true, true, true, true, true, true, true, true, true, true, false, false, true, false, false, false, false, false, false, false, false, false]
abbrev bA80 : Array Bool := #[true, true, true, true, true, true, true, true, true, true, true, true, true, true, true, true, true, true, true, true, true, true, true, false, false, false, false, false, false, false, false, false, false, false]
abbrev bA81 : Array Bool := #[true, true, true, true, true, true, true, true, true, true, true, true, true, true, true, true, true, true, true, true, true, true, true, false, true, false, false, false, false, false, false, false, false, false]
abbrev bA82 : Array Bool := #[true, true, true, true, true, true, true, true, true, true, true, true, true, true, true, true, true, true, true, true, true, true, true, false, true, true, false, false, false, false, false, false, false, false]
abbrev bA83 : Array Bool := #[true, true, true, true, true, true, true, true, true, true, true, true, true, true, true, true, true, true, true, true, true, true, true, true, false, false, false, false, false, false, false, false, false, false]
abbrev bA84 : Array Bool := #[true, true, true, true, true, true, true, true, true, true, true, true, true, true, true, true, true, true, true, true, true, true, true, true, true, false, false, false, false, false, false, false, false, false]
abbrev bA85 : Array Bool := #[true, true, true, true, true, true, true, true, true, true, true, true, true, true, true, true, true, true, true, true, true, true, true, true, true, true, false, false, false, false, false, false, false, false]
abbrev bA86 : Array Bool := #[true, true, true, true, true, true, true, true, true, true, true, true, true, true, true, true, true, true, true, true, true, true, true, true, true, true, true, false, false, false, false, false, false, false]
abbrev bA87 : Array Bool := #[true, true, true, true, true, true, true, true, true, true, true, true, true, true, true, true, true, true, true, true, true, true, true, true, true, true, true, true, false, false, false, false, false, false]
abbrev bA88 : Array Bool := #[true, true, true, true, true, true, true, true, true, true, true, true, true, true, true, true, true, true, true, true, true, true, true, true, true, true, true, true, true, false, false, false, false, false]
abbrev bA89 : Array Bool := #[true, true, true, true, true, true, true, true, true, true, true, true, true, true, true, true, true, true, true, true, true, true, true, true, true, true, true, true, true, true, false, false, false, false]
abbrev bA90 : Array Bool := #[true, true, true, true, true, true, true, true, true, true, true, true, true, true, true, true, true, true, true, true, true, true, true, true, true, true, true, true, true, true, true, false, false, false]
abbrev bA91 : Array Bool := #[true, true, true, true, true, true, true, true, true, true, true, true, true, true, true, true, true, true, true, true, true, true, true, true, true, true, true, true, true, true, true, true, false, false]
abbrev bA92 : Array Bool := #[true, true, true, true, true, true, true, true, true, true, true, true, true, true, true, true, true, true, true, true, true, true, true, true, true, true, true, true, true, true, true, true, true, false]
abbrev bA93 : Array Bool := #[true, true, true, true, true, true, true, true, true, true, true, true, true, true, true, true, true, true, true, true, true, true, true, true, true, true, true, true, true, true, true, true, true, true]
abbrev bA94 : Array Bool := #[true, true, true, true, true, true, true, true, true, true, true, true, true, true, true, true, true, true, true]
abbrev bA95 : Array Bool := #[true, true, true, true, true, true, true, true, true, true, true, true, true, true]
abbrev bA96 : Array Bool := #[true, true, true, true, true, true, true, true, true, true, true, true, true]
abbrev bA97 : Array Bool := #[true, true, true, true, true, true, true, true, true, true, true, true]
theorem qA {α : Type} (l : List α) (i : Nat) (a : α) : l.toArray.setIfInBounds i a = (l.set i a).toArray := List.setIfInBounds_toArray ..
theorem qB {α : Type} (x : α) (xs : List α) (a : α) : (x :: xs).set 0 a = a :: xs := List.set_cons_zero ..
theorem qC {α : Type} (x : α) (xs : List α) (n : Nat) (a : α) : (x :: xs).set (n + 1) a = x :: xs.set n a := List.set_cons_succ ..
theorem qO (A : Option Addr) (n c : Nat) : (Value.slice A n c).ownBlock = A.map (·.block) := by cases A <;> rfl
end Go.Proofs.YtplmcifjgmcmhaaDoor.PFnExactParseSemigroup
