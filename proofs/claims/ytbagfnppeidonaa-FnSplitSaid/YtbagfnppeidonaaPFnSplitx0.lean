-- Written by a program of this session (a turned copy of the kit's print; see NOTES.md).
import Derived.Test.YtbagfnppeidonaaProg
import Derived.Below
import Derived.Deep.Draws
import Derived.Deep.AppendLies
import Derived.Maps.AppendAt
import Derived.OwnWalk
import Derived.Laws.BytesArg
import Derived.Laws.MakeOwn
import Derived.Laws.OwnMore
import Derived.Deep.OwnRows
import Derived.Tactics
import Derived.Lib.ConvBytes
import Derived.Laws.Slices
import Derived.WalkKit
import Derived.KernelRfl
import Derived.RowKit3
import Derived.Deep.LoopGhost
import Derived.Deep.QuietTactic
import Derived.BigQuiet
import Derived.WideLaws
import Derived.Deep.DeepCutAuto
import Derived.Deep.CutBlock
import Derived.Deep.RegionHeld3
import Derived.Laws.Rows
import Derived.Lib.AppendStr
import Derived.ArgAppend
import Derived.Laws.IdiomCopy
import Derived.OrdersHeld
import Derived.Laws.BitsLemmas
import Derived.RowKit
import Derived.Lib.Slices
import Derived.Test.YtbagfnppeidonaaJoinS
import Derived.Test.YtbagfnppeidonaaVWords
import Derived.Test.YtbagfnppeidonaaVLast
import Derived.Test.YtbagfnppeidonaaVTab
import Derived.Test.YtbagfnppeidonaaVFour
import Derived.Test.YtbagfnppeidonaaVQPut
import Derived.Test.YtbagfnppeidonaaVApart
import Derived.Test.YtbagfnppeidonaaVArr
import Derived.Test.YtbagfnppeidonaaVZeros
import Derived.Test.YtbagfnppeidonaaVFoot
import Derived.Test.YtbagfnppeidonaaVKept
import Derived.Test.YtbagfnppeidonaaVShare
import Derived.Test.YtbagfnppeidonaaVN
import Derived.Test.YtbagfnppeidonaaVFootNe
import Derived.Test.YtbagfnppeidonaaVAt
import Derived.Test.YtbagfnppeidonaaVEqStruct
import Derived.Test.YtbagfnppeidonaaVRepsOne
import Derived.Test.YtbagfnppeidonaaVInv
import Derived.Test.YtbagfnppeidonaaVInvWords
import Derived.Test.YtbagfnppeidonaaVGuard
import Derived.Test.YtbagfnppeidonaaVNEv
import Derived.Test.YtbagfnppeidonaaVMore
namespace Go.Proofs.Ytbagfnppeidonaa.PFnSplit
open Go.RowKit Go.Proofs.YtbagfnppeidonaaW.PrintWords Go.Proofs.YtbagfnppeidonaaW.PrintLast Go.Proofs.YtbagfnppeidonaaW.PrintMore
attribute [local go_sem] max2_int min2_int max_two min_two max_three min_three max_four min_four   -- for this text's walks alone
set_option linter.unusedVariables false
set_option linter.unusedSimpArgs false



def errW : Option Int → Value
 | none => .nilIface
 | some c => .iface 0 (.int .i64 c)
theorem errW_none : errW none = .nilIface := rfl
theorem errW_some (c : Int) : errW (some c) = .iface 0 (.int .i64 c) := rfl

theorem info3 : (Try.prog.info? 3).map (fun i => (i.zero, i.size, i.bytes)) = some (some (.int .i64 0), 1, 8) := by kernel_rfl
theorem info5 : (Try.prog.info? 5).map (fun i => (i.zero, i.size, i.bytes)) = some (some (.int .u8 0), 1, 1) := by kernel_rfl
theorem info9 : (Try.prog.info? 9).map (fun i => (i.zero, i.size, i.bytes)) = some (some (.string ⟨#[]⟩), 1, 16) := by kernel_rfl
-- the values' own types

theorem qA {α : Type} (l : List α) (i : Nat) (a : α) : l.toArray.setIfInBounds i a = (l.set i a).toArray := List.setIfInBounds_toArray ..
theorem qB {α : Type} (x : α) (xs : List α) (a : α) : (x :: xs).set 0 a = a :: xs := List.set_cons_zero ..
theorem qC {α : Type} (x : α) (xs : List α) (n : Nat) (a : α) : (x :: xs).set (n + 1) a = x :: xs.set n a := List.set_cons_succ ..
theorem qO (A : Option Addr) (n c : Nat) : (Value.slice A n c).ownBlock = A.map (·.block) := by cases A <;> rfl
theorem zb {α β : Type} {x : Option α} {f : α → Option β} {r : β} (h : x.bind f = some r) : ∃ a, Aside0 (x = some a) ∧ f a = some r := by
 obtain ⟨a, h1, h2⟩ := Option.bind_eq_some_iff.mp h
 exact ⟨a, ⟨h1⟩, h2⟩
theorem zT {α : Type} (a b : α) : (if true = true then a else b) = a := if_pos rfl
theorem zF {α : Type} (a b : α) : (if false = true then a else b) = b := if_neg (by decide)
theorem zi {α : Type} {c : Prop} [Decidable c] {a : Option α} {r : α} (h : (if c then a else none) = some r) : c ∧ a = some r := by
 by_cases hc : c
 ·exact ⟨hc, by rwa [if_pos hc] at h⟩
 ·rw [if_neg hc] at h
  exact absurd h (by simp)
theorem za {α β : Type} (f : α → β) (l : List α) : l.toArray.map f = (l.map f).toArray := List.map_toArray ..
theorem zc {α β : Type} (f : α → β) (a : α) (l : List α) : (a :: l).map f = f a :: l.map f := List.map_cons ..
theorem zn {α β : Type} (f : α → β) : ([] : List α).map f = [] := List.map_nil ..
class Gr (w w2 : World) : Prop where out : Below w.heap.size w w2
instance Gr.r (w : World) : Gr w w := ⟨Below.refl _ _⟩
instance Gr.a (w w2 : World) (o : Obj) [h : Gr w w2] : Gr w (w2.alloc o) := ⟨below_alloc h.out o⟩
instance Gr.d (w w2 : World) [h : Gr w w2] : Gr w w2.drew := ⟨below_drew1 h.out⟩
instance Gr.n (w w2 : World) (m : Nat) [h : Gr w w2] : Gr w (w2.drewN m) := ⟨pw_below_drewN h.out m⟩
theorem zB {w W W2 : World} (h : Below w.heap.size w W) [g : Gr W W2] : Below w.heap.size w W2 := below_step h g.out
theorem zS {w W W2 : World} (h : Below w.heap.size w W) [g : Gr W W2] : w.heap.size ≤ W2.heap.size := below_size (zB h)
theorem zk {w w2 : World} {i : Nat} {o : Obj} (h : w.heap[i]? = some o) [g : Gr w w2] : w2.heap[i]? = some o := blk_below h g.out
section
variable {α : Type} {d : Kd α} {e : Nat} {w w2 : World} {base : Nat} {ok : Nat → Prop} {v : Value} {xs : List α}
theorem zR (h : d.R e w base ok v xs) [g : Gr w w2] : d.R e w2 base ok v xs := Kd.R_below h g.out
theorem zC {A : Option Addr} {n : Nat} (h : d.C w A n xs) [g : Gr w w2] : d.C w2 A n xs := Kd.C_below h g.out
end
end Go.Proofs.Ytbagfnppeidonaa.PFnSplit
