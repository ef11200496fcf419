-- Written by a program of this session (a turned copy of the kit's print; see NOTES.md).
import Derived.Test.YtbagfnppeidonaaProg
import Derived.Below
import Derived.Deep.Draws
import Derived.Deep.AppendLies
import Derived.Maps.AppendAt
import Derived.OwnWalk
import Derived.Laws.BytesArg
import Derived.Laws.MakeOwn
import Derived.Laws.OwnMore
import Derived.Deep.OwnRows
import Derived.Tactics
import Derived.Lib.ConvBytes
import Derived.Laws.Slices
import Derived.WalkKit
import Derived.KernelRfl
import Derived.RowKit3
import Derived.Deep.LoopGhost
import Derived.Deep.QuietTactic
import Derived.BigQuiet
import Derived.WideLaws
import Derived.Deep.DeepCutAuto
import Derived.Deep.CutBlock
import Derived.Deep.RegionHeld3
import Derived.Laws.Rows
import Derived.Lib.AppendStr
import Derived.ArgAppend
import Derived.Laws.IdiomCopy
import Derived.OrdersHeld
import Derived.Laws.BitsLemmas
import Derived.RowKit
import Derived.Lib.Slices
import Derived.Test.YtbagfnppeidonaaVWords
import Derived.Test.YtbagfnppeidonaaVLast
import Derived.Test.YtbagfnppeidonaaVTab
import Derived.Test.YtbagfnppeidonaaVFour
import Derived.Test.YtbagfnppeidonaaVQPut
import Derived.Test.YtbagfnppeidonaaVApart
import Derived.Test.YtbagfnppeidonaaVArr
import Derived.Test.YtbagfnppeidonaaVZeros
import Derived.Test.YtbagfnppeidonaaVFoot
import Derived.Test.YtbagfnppeidonaaVKept
import Derived.Test.YtbagfnppeidonaaVShare
import Derived.Test.YtbagfnppeidonaaVN
import Derived.Test.YtbagfnppeidonaaVFootNe
import Derived.Test.YtbagfnppeidonaaVAt
import Derived.Test.YtbagfnppeidonaaVEqStruct
import Derived.Test.YtbagfnppeidonaaVRepsOne
import Derived.Test.YtbagfnppeidonaaVInv
import Derived.Test.YtbagfnppeidonaaVInvWords
import Derived.Test.YtbagfnppeidonaaVGuard
import Derived.Test.YtbagfnppeidonaaVNEv
import Derived.Test.YtbagfnppeidonaaVMore
namespace Go.Proofs.Ytbagfnppeidonaa.PFnFromGaps
open Go.RowKit Go.Proofs.YtbagfnppeidonaaW.PrintWords Go.Proofs.YtbagfnppeidonaaW.PrintLast Go.Proofs.YtbagfnppeidonaaW.PrintMore
attribute [local go_sem] max2_int min2_int max_two min_two max_three min_three max_four min_four   -- for this text's walks alone
set_option linter.unusedVariables false
set_option linter.unusedSimpArgs false



def errW : Option Int → Value
 | none => .nilIface
 | some c => .iface 0 (.int .i64 c)
theorem errW_none : errW none = .nilIface := rfl
theorem errW_some (c : Int) : errW (some c) = .iface 0 (.int .i64 c) := rfl

theorem info3 : (Try.prog.info? 3).map (fun i => (i.zero, i.size, i.bytes)) = some (some (.int .i64 0), 1, 8) := by kernel_rfl
theorem info4 : (Try.prog.info? 4).map (fun i => (i.zero, i.size, i.bytes)) = some (some (.bool false), 1, 1) := by kernel_rfl
-- the values' own types

abbrev bA0 : Array Bool := #[false, false, false, false, false, false, false, false, false, false, false, false, false, false, false, false, false, false, false, false, false, false, false, false, false, false, false, false, false, false, false, false, false, false]
abbrev bA1 : Array Bool := #[false, false, false, false, false, false, false, false, false, false, false, false, false, false, false, false, false, false, false]
abbrev bA2 : Array Bool := #[false, false, false, false, false, false, false, false, false, false, false, false, false, false]
abbrev bA3 : Array Bool := #[false, false, false, false, false, false, false, false, false, false, false, false, false]
abbrev bA4 : Array Bool := #[false, false, false, false, false, false, false, false, false, false, false, false]
abbrev bA5 : Array Bool := #[false, false, false, false, false, false, false, false, false, false, false]
abbrev bA6 : Array Bool := #[false, false, false, false, false, false, false, false]
abbrev bA7 : Array Bool := #[true, false, false, false, false, false, false, false, false, false, false, false, false, false, false, false, false, false, false, false, false, false, false, false, false, false, false, false, false, false, false, false, false, false]
abbrev bA8 : Array Bool := #[true, false, false, false, false, false, false, false, false, false, false, false, false, false, false, false, false, false, false]
abbrev bA9 : Array Bool := #[true, false, false, false, false, false, false, false, false, false, false, false, false, false]
abbrev bA10 : Array Bool := #[true, false, false, false, false, false, false, false, false, false, false, false, false]
abbrev bA11 : Array Bool := #[true, false, false, false, false, false, false, false, false, false, false, false]
abbrev bA12 : Array Bool := #[true, false, false, false, false, false, false, false]
abbrev bA13 : Array Bool := #[true, true, false, false, false, false, false, false, false, false, false, false, false, false, false, false, false, false, false, false, false, false, false, false, false, false, false, false, false, false, false, false, false, false]
abbrev bA14 : Array Bool := #[true, true, false, false, false, false, false, false, false, false, false, false, false, false, false, false, false, false, false]
abbrev bA15 : Array Bool := #[true, true, false, false, false, false, false, false, false, false, false, false, false, false]
abbrev bA16 : Array Bool := #[true, true, false, false, false, false, false, false, false, false, false, false, false]
abbrev bA17 : Array Bool := #[true, true, false, false, false, false, false, false, false, false, false, false]
abbrev bA18 : Array Bool := #[true, true, true, false, false, false, false, false, false, false, false, false, false, false, false, false, false, false, false, false, false, false, false, false, false, false, false, false, false, false, false, false, false, false]
abbrev bA19 : Array Bool := #[true, true, true, false, false, false, false, false, false, false, false, false, false, false, false, false, false, false, false]
abbrev bA20 : Array Bool := #[true, true, true, false, false, false, false, false, false, false, false, false, false, false]
abbrev bA21 : Array Bool := #[true, true, true, false, false, false, false, false, false, false, false, false, false]
abbrev bA22 : Array Bool := #[true, true, true, false, false, false, false, false, false, false, false, false]
abbrev bA23 : Array Bool := #[true, true, true, false, false, false, false, false]
abbrev bA24 : Array Bool := #[true, true, true, false, false, true, false, false, false, false, false, false, false]
abbrev bA25 : Array Bool := #[true, true, true, false, false, true, true, false, false, false, false, false, false]
abbrev bA26 : Array Bool := #[true, true, true, false, false, true, true, true, false, false, false, false, false]
abbrev bA27 : Array Bool := #[true, true, true, true, false, false, false, false, false, false, false, false, false, false, false, false, false, false, false, false, false, false, false, false, false, false, false, false, false, false, false, false, false, false]
abbrev bA28 : Array Bool := #[true, true, true, true, false, false, false, false, false, false, false, false, false, false, false, false, false, false, false]
abbrev bA29 : Array Bool := #[true, true, true, true, false, false, false, false, false, false, false, false, false, false]
abbrev bA30 : Array Bool := #[true, true, true, true, false, false, false, false, false, false, false, false]
abbrev bA31 : Array Bool := #[true, true, true, true, false, false, false, false]
abbrev bA32 : Array Bool := #[true, true, true, true, false, true, true, true, false, false, false, false, false]
abbrev bA33 : Array Bool := #[true, true, true, true, false, true, true, true, true, false, false, false, false]
abbrev bA34 : Array Bool := #[true, true, true, true, false, true, true, true, true, true, false, false, false]
abbrev bA35 : Array Bool := #[true, true, true, true, true, false, false, false, false, false, false, false, false, false, false, false, false, false, false, false, false, false, false, false, false, false, false, false, false, false, false, false, false, false]
abbrev bA36 : Array Bool := #[true, true, true, true, true, false, false, false, false, false, false, false, false, false, false, false, false, false, false]
abbrev bA37 : Array Bool := #[true, true, true, true, true, false, false, false, false, false, false, false, false, false]
abbrev bA38 : Array Bool := #[true, true, true, true, true, false, false, false, false, false, false, false]
abbrev bA39 : Array Bool := #[true, true, true, true, true, false, false, false]
abbrev bA40 : Array Bool := #[true, true, true, true, true, true, false, false, false, false, false, false, false, false, false, false, false, false, false, false, false, false, false, false, false, false, false, false, false, false, false, false, false, false]
abbrev bA41 : Array Bool := #[true, true, true, true, true, true, false, false, false, false, false, false, false, false, false, false, false, false, false]
abbrev bA42 : Array Bool := #[true, true, true, true, true, true, false, false, false, false, false, false, false, false]
abbrev bA43 : Array Bool := #[true, true, true, true, true, true, false, false, false, false, false, false]
abbrev bA44 : Array Bool := #[true, true, true, true, true, true, false, false, false, true, false, false]
abbrev bA45 : Array Bool := #[true, true, true, true, true, true, false, false]
abbrev bA46 : Array Bool := #[true, true, true, true, true, true, true, false, false, false, false, false, false, false, false, false, false, false, false, false, false, false, false, false, false, false, false, false, false, false, false, false, false, false]
abbrev bA47 : Array Bool := #[true, true, true, true, true, true, true, false, false, false, false, false, false, false, false, false, false, false, false]
abbrev bA48 : Array Bool := #[true, true, true, true, true, true, true, false, false, false, false, false, false, false]
abbrev bA49 : Array Bool := #[true, true, true, true, true, true, true, false, false, true, false, false]
abbrev bA50 : Array Bool := #[true, true, true, true, true, true, true, false, true, false, false, false, false, false]
abbrev bA51 : Array Bool := #[true, true, true, true, true, true, true, false, true, true, false, false, false, false]
abbrev bA52 : Array Bool := #[true, true, true, true, true, true, true, false, true, true, true, false, false, false]
abbrev bA53 : Array Bool := #[true, true, true, true, true, true, true, false]
abbrev bA54 : Array Bool := #[true, true, true, true, true, true, true, true, false, false, false, false, false, false, false, false, false, false, false, false, false, false, false, false, false, false, false, false, false, false, false, false, false, false]
abbrev bA55 : Array Bool := #[true, true, true, true, true, true, true, true, false, false, false, false, false, false, false, false, false, false, false]
abbrev bA56 : Array Bool := #[true, true, true, true, true, true, true, true, false, false, false, false, false, false]
abbrev bA57 : Array Bool := #[true, true, true, true, true, true, true, true, false, true, false, false]
abbrev bA58 : Array Bool := #[true, true, true, true, true, true, true, true, true, false, false, false, false, false, false, false, false, false, false, false, false, false, false, false, false, false, false, false, false, false, false, false, false, false]
abbrev bA59 : Array Bool := #[true, true, true, true, true, true, true, true, true, false, false, false, false, false, false, false, false, false, false]
abbrev bA60 : Array Bool := #[true, true, true, true, true, true, true, true, true, false, false, false, false, false]
abbrev bA61 : Array Bool := #[true, true, true, true, true, true, true, true, true, false, false]
abbrev bA62 : Array Bool := #[true, true, true, true, true, true, true, true, true, true, false, false, false, false, false, false, false, false, false, false, false, false, false, false, false, false, false, false, false, false, false, false, false, false]
abbrev bA63 : Array Bool := #[true, true, true, true, true, true, true, true, true, true, false, false, false, false]
abbrev bA64 : Array Bool := #[true, true, true, true, true, true, true, true, true, true, false, false, false]
abbrev bA65 : Array Bool := #[true, true, true, true, true, true, true, true, true, true, false, false]
abbrev bA66 : Array Bool := #[true, true, true, true, true, true, true, true, true, true, false]
abbrev bA67 : Array Bool := #[true, true, true, true, true, true, true, true, true, true, true, false, false, false, false, false, false, false, false, false, false, false, false, false, false, false, false, false, false, false, false, false, false, false]
abbrev bA68 : Array Bool := #[true, true, true, true, true, true, true, true, true, true, true, false, false, false]
abbrev bA69 : Array Bool := #[true, true, true, true, true, true, true, true, true, true, true, false, false]
abbrev bA70 : Array Bool := #[true, true, true, true, true, true, true, true, true, true, true, false]
abbrev bA71 : Array Bool := #[true, true, true, true, true, true, true, true, true, true, true, true, false, false, false, false, false, false, false, false, false, false, false, false, false, false, false, false, false, false, false, false, false, false]
abbrev bA72 : Array Bool := #[true, true, true, true, true, true, true, true, true, true, true, true, false, false]
abbrev bA73 : Array Bool := #[true, true, true, true, true, true, true, true, true, true, true, true, false]
abbrev bA74 : Array Bool := #[true, true, true, true, true, true, true, true, true, true, true, true, true, false, false, false, false, false, false, false, false, false, false, false, false, false, false, false, false, false, false, false, false, false]
abbrev bA75 : Array Bool := #[true, true, true, true, true, true, true, true, true, true, true, true, true, false]
abbrev bA76 : Array Bool := #[true, true, true, true, true, true, true, true, true, true, true, true, true, true, false, false, false, false, false, false, false, false, false, false, false, false, false, false, false, false, false, false, false, false]
abbrev bA77 : Array Bool := #[true, true, true, true, true, true, true, true, true, true, true, true, true, true, true, false, false, false, false, false, false, false, false, false, false, false, false, false, false, false, false, false, false, false]
abbrev bA78 : Array Bool := #[true, true, true, true, true, true, true, true, true, true, true, true, true, true, true, false, false, false, false]
abbrev bA79 : Array Bool := #[true, true, true, true, true, true, true, true, true, true, true, true, true, true, true, true, false, false, false, false, false, false, false, false, false, false, false, false, false, false, false, false, false, false]
abbrev bA80 : Array Bool := #[true, true, true, true, true, true, true, true, true, true, true, true, true, true, true, true, false, false, false]
abbrev bA81 : Array Bool := #[true, true, true, true, true, true, true, true, true, true, true, true, true, true, true, true, true, false, false, false, false, false, false, false, false, false, false, false, false, false, false, false, false, false]
abbrev bA82 : Array Bool := #[true, true, true, true, true, true, true, true, true, true, true, true, true, true, true, true, true, false, false]
abbrev bA83 : Array Bool := #[true, true, true, true, true, true, true, true, true, true, true, true, true, true, true, true, true, true, false, false, false, false, false, false, false, false, false, false, false, false, false, false, false, false]
abbrev bA84 : Array Bool := #[true, true, true, true, true, true, true, true, true, true, true, true, true, true, true, true, true, true, false]
abbrev bA85 : Array Bool := #[true, true, true, true, true, true, true, true, true, true, true, true, true, true, true, true, true, true, true, false, false, false, false, false, false, false, false, false, false, false, false, false, false, false]
abbrev bA86 : Array Bool := #[true, true, true, true, true, true, true, true, true, true, true, true, true, true, true, true, true, true, true, true, false, false, false, false, false, false, false, false, false, false, false, false, false, false]
abbrev bA87 : Array Bool := #[true, true, true, true, true, true, true, true, true, true, true, true, true, true, true, true, true, true, true, true, true, false, false, false, false, false, false, false, false, false, false, false, false, false]
abbrev bA88 : Array Bool := #[true, true, true, true, true, true, true, true, true, true, true, true, true, true, true, true, true, true, true, true, true, true, false, false, false, false, false, false, false, false, false, false, false, false]
abbrev bA89 : Array Bool := #[true, true, true, true, true, true, true, true, true, true, true, true, true, true, true, true, true, true, true, true, true, true, false, false, true, false, false, false, false, false, false, false, false, false]
abbrev bA90 : Array Bool := #[true, true, true, true, true, true, true, true, true, true, true, true, true, true, true, true, true, true, true, true, true, true, true, false, false, false, false, false, false, false, false, false, false, false]
abbrev bA91 : Array Bool := #[true, true, true, true, true, true, true, true, true, true, true, true, true, true, true, true, true, true, true, true, true, true, true, false, true, false, false, false, false, false, false, false, false, false]
abbrev bA92 : Array Bool := #[true, true, true, true, true, true, true, true, true, true, true, true, true, true, true, true, true, true, true, true, true, true, true, false, true, true, false, false, false, false, false, false, false, false]
abbrev bA93 : Array Bool := #[true, true, true, true, true, true, true, true, true, true, true, true, true, true, true, true, true, true, true, true, true, true, true, true, false, false, false, false, false, false, false, false, false, false]
abbrev bA94 : Array Bool := #[true, true, true, true, true, true, true, true, true, true, true, true, true, true, true, true, true, true, true, true, true, true, true, true, true, false, false, false, false, false, false, false, false, false]
abbrev bA95 : Array Bool := #[true, true, true, true, true, true, true, true, true, true, true, true, true, true, true, true, true, true, true, true, true, true, true, true, true, true, false, false, false, false, false, false, false, false]
abbrev bA96 : Array Bool := #[true, true, true, true, true, true, true, true, true, true, true, true, true, true, true, true, true, true, true, true, true, true, true, true, true, true, true, false, false, false, false, false, false, false]
abbrev bA97 : Array Bool := #[true, true, true, true, true, true, true, true, true, true, true, true, true, true, true, true, true, true, true, true, true, true, true, true, true, true, true, true, false, false, false, false, false, false]
abbrev bA98 : Array Bool := #[true, true, true, true, true, true, true, true, true, true, true, true, true, true, true, true, true, true, true, true, true, true, true, true, true, true, true, true, true, false, false, false, false, false]
abbrev bA99 : Array Bool := #[true, true, true, true, true, true, true, true, true, true, true, true, true, true, true, true, true, true, true, true, true, true, true, true, true, true, true, true, true, true, false, false, false, false]
abbrev bA100 : Array Bool := #[true, true, true, true, true, true, true, true, true, true, true, true, true, true, true, true, true, true, true, true, true, true, true, true, true, true, true, true, true, true, true, false, false, false]
abbrev bA101 : Array Bool := #[true, true, true, true, true, true, true, true, true, true, true, true, true, true, true, true, true, true, true, true, true, true, true, true, true, true, true, true, true, true, true, true, false, false]
abbrev bA102 : Array Bool := #[true, true, true, true, true, true, true, true, true, true, true, true, true, true, true, true, true, true, true, true, true, true, true, true, true, true, true, true, true, true, true, true, true, false]
abbrev bA103 : Array Bool := #[true, true, true, true, true, true, true, true, true, true, true, true, true, true, true, true, true, true, true, true, true, true, true, true, true, true, true, true, true, true, true, true, true, true]
abbrev bA104 : Array Bool := #[true, true, true, true, true, true, true, true, true, true, true, true, true, true, true, true, true, true, true]
abbrev bA105 : Array Bool := #[true, true, true, true, true, true, true, true, true, true, true, true, true, true]
abbrev bA106 : Array Bool := #[true, true, true, true, true, true, true, true, true, true, true, true, true]
abbrev bA107 : Array Bool := #[true, true, true, true, true, true, true, true, true, true, true, true]
abbrev bA108 : Array Bool := #[true, true, true, true, true, true, true, true, true, true, true]
abbrev bA109 : Array Bool := #[true, true, true, true, true, true, true, true]
theorem qA {α : Type} (l : List α) (i : Nat) (a : α) : l.toArray.setIfInBounds i a = (l.set i a).toArray := List.setIfInBounds_toArray ..
theorem qB {α : Type} (x : α) (xs : List α) (a : α) : (x :: xs).set 0 a = a :: xs := List.set_cons_zero ..
theorem qC {α : Type} (x : α) (xs : List α) (n : Nat) (a : α) : (x :: xs).set (n + 1) a = x :: xs.set n a := List.set_cons_succ ..
theorem qO (A : Option Addr) (n c : Nat) : (Value.slice A n c).ownBlock = A.map (·.block) := by cases A <;> rfl
section
variable {P : Program} {ops : Array Oper} {Q : Exit → Act → World → Prop} {md : Region.Mode} {S : World → Prop} {ds : List Nat} {T : Bool × List (List Nat × List Nat)}
theorem zp {oi : Oper} {fuel : Nat} {l : Array Bool} {a : Act} {w : World} (i : Nat) (N : Option Tmp) (v : Value) (l' : Array Bool) (hi : ops[i]? = some oi) (hN : oi.dst = N) (hT : Aside0 (rtab md ops = T)) (hc : anyT T l.toList l'.toList i = true) (hQ : ∀ c a w, Q (.panic c) (a.put oi.dst v) w → Q (.panic c) a w) (hw : Region.wanted oi (yielded ops a.tmps) = true) (hy : ∀ w, (execOp a.eval oi).run P w = .ok (.value v) w) (a' : Act) (ha : a.put N v = a') (h : wpAnyLast P md ops Q S ds fuel l' a' w) : wpAnyLast P md ops Q S ds (fuel + 1) l a w := pure_ l' hi hN (any_of hT.out hc) hQ (Or.inl ⟨hw, hy⟩) ha h
theorem zu {oi : Oper} {fuel : Nat} {l : Array Bool} {a : Act} {w : World} (i : Nat) (N : Option Tmp) (l' : Array Bool) (hi : ops[i]? = some oi) (hN : oi.dst = N) (hT : Aside0 (rtab md ops = T)) (hc : anyT T l.toList l'.toList i = true) (hQ : ∀ c a w, Q (.panic c) (a.put oi.dst undef) w → Q (.panic c) a w) (hw : Region.wanted oi (yielded ops a.tmps) = false) (a' : Act) (ha : a.put N undef = a') (h : wpAnyLast P md ops Q S ds fuel l' a' w) : wpAnyLast P md ops Q S ds (fuel + 1) l a w := pure_ l' hi hN (any_of hT.out hc) hQ (Or.inr ⟨hw, rfl⟩) ha h
theorem zt {oi : Oper} {fuel : Nat} {l : Array Bool} {a : Act} {w : World} {B : List Nat} (i : Nat) (N : Option Tmp) (v : Value) (l' : Array Bool) (hi : ops[i]? = some oi) (hN : oi.dst = N) (hT : Aside0 (rtab md ops = T)) (hB : Aside0 (waitsOk T.2 B = true)) (hc : takeW T B ds l.toList l'.toList i = true) (hQ : ∀ c a w, Q (.panic c) (a.put oi.dst v) w → Q (.panic c) a w) (hw : Region.wanted oi (yielded ops a.tmps) = true) (hy : ∀ w, S w → (execOp a.eval oi).run P w = .ok (.value v) w) (hS : S w) (a' : Act) (ha : a.put N v = a') (h : wpAnyLast P md ops Q S ds fuel l' a' w) : wpAnyLast P md ops Q S ds (fuel + 1) l a w := take_ l' hi hN (take_ofW hT.out hB.out hc) hQ (Or.inl ⟨hw, hy⟩) hS ha h
end
theorem zb {α β : Type} {x : Option α} {f : α → Option β} {r : β} (h : x.bind f = some r) : ∃ a, Aside0 (x = some a) ∧ f a = some r := by
 obtain ⟨a, h1, h2⟩ := Option.bind_eq_some_iff.mp h
 exact ⟨a, ⟨h1⟩, h2⟩
theorem zT {α : Type} (a b : α) : (if true = true then a else b) = a := if_pos rfl
theorem zF {α : Type} (a b : α) : (if false = true then a else b) = b := if_neg (by decide)
theorem zi {α : Type} {c : Prop} [Decidable c] {a : Option α} {r : α} (h : (if c then a else none) = some r) : c ∧ a = some r := by
 by_cases hc : c
 ·exact ⟨hc, by rwa [if_pos hc] at h⟩
 ·rw [if_neg hc] at h
  exact absurd h (by simp)
theorem za {α β : Type} (f : α → β) (l : List α) : l.toArray.map f = (l.map f).toArray := List.map_toArray ..
theorem zc {α β : Type} (f : α → β) (a : α) (l : List α) : (a :: l).map f = f a :: l.map f := List.map_cons ..
theorem zn {α β : Type} (f : α → β) : ([] : List α).map f = [] := List.map_nil ..
class Gr (w w2 : World) : Prop where out : Below w.heap.size w w2
instance Gr.r (w : World) : Gr w w := ⟨Below.refl _ _⟩
instance Gr.a (w w2 : World) (o : Obj) [h : Gr w w2] : Gr w (w2.alloc o) := ⟨below_alloc h.out o⟩
instance Gr.d (w w2 : World) [h : Gr w w2] : Gr w w2.drew := ⟨below_drew1 h.out⟩
instance Gr.n (w w2 : World) (m : Nat) [h : Gr w w2] : Gr w (w2.drewN m) := ⟨pw_below_drewN h.out m⟩
theorem zB {w W W2 : World} (h : Below w.heap.size w W) [g : Gr W W2] : Below w.heap.size w W2 := below_step h g.out
theorem zS {w W W2 : World} (h : Below w.heap.size w W) [g : Gr W W2] : w.heap.size ≤ W2.heap.size := below_size (zB h)
theorem zk {w w2 : World} {i : Nat} {o : Obj} (h : w.heap[i]? = some o) [g : Gr w w2] : w2.heap[i]? = some o := blk_below h g.out
section
variable {α : Type} {d : Kd α} {e : Nat} {w w2 : World} {base : Nat} {ok : Nat → Prop} {v : Value} {xs : List α}
theorem zR (h : d.R e w base ok v xs) [g : Gr w w2] : d.R e w2 base ok v xs := Kd.R_below h g.out
theorem zC {A : Option Addr} {n : Nat} (h : d.C w A n xs) [g : Gr w w2] : d.C w2 A n xs := Kd.C_below h g.out
end
end Go.Proofs.Ytbagfnppeidonaa.PFnFromGaps
