-- Written by a program of this session (a turned copy of the kit's print; see NOTES.md).
import Derived.Test.YthednemidaegkaaGreatDoorProg
import Derived.Below
import Derived.Deep.Draws
import Derived.Deep.AppendLies
import Derived.Maps.AppendAt
import Derived.OwnWalk
import Derived.Laws.BytesArg
import Derived.Laws.MakeOwn
import Derived.Laws.OwnMore
import Derived.Deep.OwnRows
import Derived.Tactics
import Derived.Lib.ConvBytes
import Derived.Laws.Slices
import Derived.WalkKit
import Derived.KernelRfl
import Derived.RowKit3
import Derived.Deep.LoopGhost
import Derived.Deep.QuietTactic
import Derived.BigQuiet
import Derived.WideLaws
import Derived.Deep.DeepCutAuto
import Derived.Deep.CutBlock
import Derived.Deep.RegionHeld3
import Derived.Laws.Rows
import Derived.Lib.AppendStr
import Derived.ArgAppend
import Derived.Laws.IdiomCopy
import Derived.OrdersHeld
import Derived.Laws.BitsLemmas
import Derived.RowKit
import Derived.Test.YthednemidaegkaaGreatDoorItoaS
import Derived.Test.YthednemidaegkaaGreatDoorJoinS
import Derived.Lib.SmallJoins
import Derived.Lib.Slices
import Derived.Test.YthednemidaegkaaGreatDoorSortS
import Derived.Sort.OwnSortedInts
import Derived.Lib.SlicesCompact
import Derived.Test.YthednemidaegkaaGreatDoorVWords
import Derived.Test.YthednemidaegkaaGreatDoorVLast
import Derived.Test.YthednemidaegkaaGreatDoorVTab
import Derived.Test.YthednemidaegkaaGreatDoorVFour
import Derived.Test.YthednemidaegkaaGreatDoorVQPut
import Derived.Test.YthednemidaegkaaGreatDoorVApart
import Derived.Test.YthednemidaegkaaGreatDoorVArr
import Derived.Test.YthednemidaegkaaGreatDoorVZeros
import Derived.Test.YthednemidaegkaaGreatDoorVFoot
import Derived.Test.YthednemidaegkaaGreatDoorVKept
import Derived.Test.YthednemidaegkaaGreatDoorVShare
import Derived.Test.YthednemidaegkaaGreatDoorVN
import Derived.Test.YthednemidaegkaaGreatDoorVFootNe
import Derived.Test.YthednemidaegkaaGreatDoorVAt
import Derived.Test.YthednemidaegkaaGreatDoorVEqStruct
import Derived.Test.YthednemidaegkaaGreatDoorVRepsOne
import Derived.Test.YthednemidaegkaaGreatDoorVInv
import Derived.Test.YthednemidaegkaaGreatDoorVInvWords
import Derived.Test.YthednemidaegkaaGreatDoorVGuard
import Derived.Test.YthednemidaegkaaGreatDoorVNEv
import Derived.Test.YthednemidaegkaaGreatDoorVMore
namespace Go.Proofs.YthednemidaegkaaGreatDoor.PFnLists
open Go.RowKit Go.Proofs.YthednemidaegkaaGreatDoorW.PrintWords Go.Proofs.YthednemidaegkaaGreatDoorW.PrintLast Go.Proofs.YthednemidaegkaaGreatDoorW.PrintMore
attribute [local go_sem] max2_int min2_int max_two min_two max_three min_three max_four min_four   -- for this text's walks alone
set_option linter.unusedVariables false
set_option linter.unusedSimpArgs false



def errW : Option Int → Value
 | none => .nilIface
 | some c => .iface 0 (.int .i64 c)
theorem errW_none : errW none = .nilIface := rfl
theorem errW_some (c : Int) : errW (some c) = .iface 0 (.int .i64 c) := rfl

theorem info3 : (Tryz.prog.info? 3).map (fun i => (i.zero, i.size, i.bytes)) = some (some (.int .i64 0), 1, 8) := by kernel_rfl
theorem info5 : (Tryz.prog.info? 5).map (fun i => (i.zero, i.size, i.bytes)) = some (some (.int .u8 0), 1, 1) := by kernel_rfl
theorem info9 : (Tryz.prog.info? 9).map (fun i => (i.zero, i.size, i.bytes)) = some (some (.string ⟨#[]⟩), 1, 16) := by kernel_rfl
-- the values' own types

abbrev y_ : Bool := true
abbrev n_ : Bool := false
abbrev bA0 : Array Bool := #[n_, n_, n_, n_, n_, n_, n_, n_, n_, n_, n_, n_, n_, n_]
abbrev bA1 : Array Bool := #[n_, n_, n_, n_, n_, n_, n_, n_, n_, n_, n_, n_]
abbrev bA2 : Array Bool := #[y_, n_, n_, n_, n_, n_, n_, n_, n_, n_, n_, n_, n_, n_]
abbrev bA3 : Array Bool := #[y_, n_, n_, n_, n_, n_, n_, n_, n_, n_, n_, n_]
abbrev bA4 : Array Bool := #[y_, y_, n_, n_, n_, n_, n_, n_, n_, n_, n_, n_, n_, n_]
abbrev bA5 : Array Bool := #[y_, y_, n_, n_, n_, n_, n_, n_, n_, n_, n_, n_]
abbrev bA6 : Array Bool := #[y_, y_, y_, n_, n_, n_, n_, n_, n_, n_, n_, n_, n_, n_]
abbrev bA7 : Array Bool := #[y_, y_, y_, n_, n_, n_, n_, n_, n_, n_, n_, n_]
abbrev bA8 : Array Bool := #[y_, y_, y_, y_, n_, n_, n_, n_, n_, n_, n_, n_, n_, n_]
abbrev bA9 : Array Bool := #[y_, y_, y_, y_, n_, n_, n_, n_, n_, n_, n_, n_]
abbrev bA10 : Array Bool := #[y_, y_, y_, y_, y_, n_, n_, n_, n_, n_, n_, n_, n_, n_]
abbrev bA11 : Array Bool := #[y_, y_, y_, y_, y_, n_, n_, n_, n_, n_, n_, n_]
abbrev bA12 : Array Bool := #[y_, y_, y_, y_, y_, y_, n_, n_, n_, n_, n_, n_, n_, n_]
abbrev bA13 : Array Bool := #[y_, y_, y_, y_, y_, y_, n_, n_, n_, n_, n_, n_]
abbrev bA14 : Array Bool := #[y_, y_, y_, y_, y_, y_, n_, n_, n_, y_, n_, n_]
abbrev bA15 : Array Bool := #[y_, y_, y_, y_, y_, y_, y_, n_, n_, n_, n_, n_, n_, n_]
abbrev bA16 : Array Bool := #[y_, y_, y_, y_, y_, y_, y_, n_, n_, y_, n_, n_]
abbrev bA17 : Array Bool := #[y_, y_, y_, y_, y_, y_, y_, n_, y_, n_, n_, n_, n_, n_]
abbrev bA18 : Array Bool := #[y_, y_, y_, y_, y_, y_, y_, n_, y_, y_, n_, n_, n_, n_]
abbrev bA19 : Array Bool := #[y_, y_, y_, y_, y_, y_, y_, n_, y_, y_, y_, n_, n_, n_]
abbrev bA20 : Array Bool := #[y_, y_, y_, y_, y_, y_, y_, y_, n_, n_, n_, n_, n_, n_]
abbrev bA21 : Array Bool := #[y_, y_, y_, y_, y_, y_, y_, y_, n_, y_, n_, n_]
abbrev bA22 : Array Bool := #[y_, y_, y_, y_, y_, y_, y_, y_, y_, n_, n_, n_, n_, n_]
abbrev bA23 : Array Bool := #[y_, y_, y_, y_, y_, y_, y_, y_, y_, y_, n_, n_, n_, n_]
abbrev bA24 : Array Bool := #[y_, y_, y_, y_, y_, y_, y_, y_, y_, y_, n_, n_]
abbrev bA25 : Array Bool := #[y_, y_, y_, y_, y_, y_, y_, y_, y_, y_, y_, n_, n_, n_]
abbrev bA26 : Array Bool := #[y_, y_, y_, y_, y_, y_, y_, y_, y_, y_, y_, n_]
abbrev bA27 : Array Bool := #[y_, y_, y_, y_, y_, y_, y_, y_, y_, y_, y_, y_, n_, n_]
abbrev bA28 : Array Bool := #[y_, y_, y_, y_, y_, y_, y_, y_, y_, y_, y_, y_, y_, n_]
abbrev bA29 : Array Bool := #[y_, y_, y_, y_, y_, y_, y_, y_, y_, y_, y_, y_, y_, y_]
abbrev bA30 : Array Bool := #[y_, y_, y_, y_, y_, y_, y_, y_, y_, y_, y_, y_]
theorem qA {α : Type} (l : List α) (i : Nat) (a : α) : l.toArray.setIfInBounds i a = (l.set i a).toArray := List.setIfInBounds_toArray ..
theorem qB {α : Type} (x : α) (xs : List α) (a : α) : (x :: xs).set 0 a = a :: xs := List.set_cons_zero ..
theorem qC {α : Type} (x : α) (xs : List α) (n : Nat) (a : α) : (x :: xs).set (n + 1) a = x :: xs.set n a := List.set_cons_succ ..
theorem qO (A : Option Addr) (n c : Nat) : (Value.slice A n c).ownBlock = A.map (·.block) := by cases A <;> rfl
section
variable {P : Program} {ops : Array Oper} {Q : Exit → Act → World → Prop} {md : Region.Mode} {S : World → Prop} {ds : List Nat} {T : Bool × List (List Nat × List Nat)}
theorem zp {oi : Oper} {fuel : Nat} {l : Array Bool} {a : Act} {w : World} (i : Nat) (N : Option Tmp) (v : Value) (l' : Array Bool) (hi : ops[i]? = some oi) (hN : oi.dst = N) (hT : Aside0 (rtab md ops = T)) (hc : anyT T l.toList l'.toList i = true) (hQ : ∀ c a w, Q (.panic c) (a.put oi.dst v) w → Q (.panic c) a w) (hw : Region.wanted oi (yielded ops a.tmps) = true) (hy : ∀ w, (execOp a.eval oi).run P w = .ok (.value v) w) (a' : Act) (ha : a.put N v = a') (h : wpAnyLast P md ops Q S ds fuel l' a' w) : wpAnyLast P md ops Q S ds (fuel + 1) l a w := pure_ l' hi hN (any_of hT.out hc) hQ (Or.inl ⟨hw, hy⟩) ha h
theorem zP {oi : Oper} {fuel : Nat} {l : Array Bool} {a : Act} {w : World} (i : Nat) (N : Option Tmp) (v : Value) (l' : Array Bool) (hi : ops[i]? = some oi) (hN : oi.dst = N) (hT : Aside0 (rtab md ops = T)) (hy : ∀ w, (execOp a.eval oi).run P w = .ok (.value v) w) (a' : Act) (ha : a.put N v = a') (h : wpAnyLast P md ops Q S ds fuel l' a' w) (hc : anyT T l.toList l'.toList i = true := by kernel_rfl) (hQ : ∀ c a w, Q (.panic c) (a.put oi.dst v) w → Q (.panic c) a w := by exact fun _ _ _ h => h) (hw : Region.wanted oi (yielded ops a.tmps) = true := by rfl) : wpAnyLast P md ops Q S ds (fuel + 1) l a w := pure_ l' hi hN (any_of hT.out hc) hQ (Or.inl ⟨hw, hy⟩) ha h
theorem zU {oi : Oper} {fuel : Nat} {l : Array Bool} {a : Act} {w : World} (i : Nat) (N : Option Tmp) (l' : Array Bool) (hi : ops[i]? = some oi) (hN : oi.dst = N) (hT : Aside0 (rtab md ops = T)) (a' : Act) (ha : a.put N undef = a') (h : wpAnyLast P md ops Q S ds fuel l' a' w) (hc : anyT T l.toList l'.toList i = true := by kernel_rfl) (hQ : ∀ c a w, Q (.panic c) (a.put oi.dst undef) w → Q (.panic c) a w := by exact fun _ _ _ h => h) (hw : Region.wanted oi (yielded ops a.tmps) = false := by rfl) : wpAnyLast P md ops Q S ds (fuel + 1) l a w := pure_ l' hi hN (any_of hT.out hc) hQ (Or.inr ⟨hw, rfl⟩) ha h
theorem zt {oi : Oper} {fuel : Nat} {l : Array Bool} {a : Act} {w : World} {B : List Nat} (i : Nat) (N : Option Tmp) (v : Value) (l' : Array Bool) (hi : ops[i]? = some oi) (hN : oi.dst = N) (hT : Aside0 (rtab md ops = T)) (hB : Aside0 (waitsOk T.2 B = true)) (hc : takeW T B ds l.toList l'.toList i = true) (hQ : ∀ c a w, Q (.panic c) (a.put oi.dst v) w → Q (.panic c) a w) (hw : Region.wanted oi (yielded ops a.tmps) = true) (hy : ∀ w, S w → (execOp a.eval oi).run P w = .ok (.value v) w) (hS : S w) (a' : Act) (ha : a.put N v = a') (h : wpAnyLast P md ops Q S ds fuel l' a' w) : wpAnyLast P md ops Q S ds (fuel + 1) l a w := take_ l' hi hN (take_ofW hT.out hB.out hc) hQ (Or.inl ⟨hw, hy⟩) hS ha h
theorem zZ {oi : Oper} {fuel : Nat} {l : Array Bool} {a : Act} {w : World} {B : List Nat} (i : Nat) (N : Option Tmp) (v : Value) (l' : Array Bool) (hi : ops[i]? = some oi) (hN : oi.dst = N) (hT : Aside0 (rtab md ops = T)) (hB : Aside0 (waitsOk T.2 B = true)) (hy : ∀ w, S w → (execOp a.eval oi).run P w = .ok (.value v) w) (hS : S w) (a' : Act) (ha : a.put N v = a') (h : wpAnyLast P md ops Q S ds fuel l' a' w) (hc : takeW T B ds l.toList l'.toList i = true := by kernel_rfl) (hQ : ∀ c a w, Q (.panic c) (a.put oi.dst v) w → Q (.panic c) a w := by exact fun _ _ _ h => h) (hw : Region.wanted oi (yielded ops a.tmps) = true := by rfl) : wpAnyLast P md ops Q S ds (fuel + 1) l a w := take_ l' hi hN (take_ofW hT.out hB.out hc) hQ (Or.inl ⟨hw, hy⟩) hS ha h
end
theorem zb {α β : Type} {x : Option α} {f : α → Option β} {r : β} (h : x.bind f = some r) : ∃ a, Aside0 (x = some a) ∧ f a = some r := by
 obtain ⟨a, h1, h2⟩ := Option.bind_eq_some_iff.mp h
 exact ⟨a, ⟨h1⟩, h2⟩
theorem zT {α : Type} (a b : α) : (if true = true then a else b) = a := if_pos rfl
theorem zF {α : Type} (a b : α) : (if false = true then a else b) = b := if_neg (by decide)
theorem zi {α : Type} {c : Prop} [Decidable c] {a : Option α} {r : α} (h : (if c then a else none) = some r) : c ∧ a = some r := by
 by_cases hc : c
 ·exact ⟨hc, by rwa [if_pos hc] at h⟩
 ·rw [if_neg hc] at h
  exact absurd h (by simp)
theorem za {α β : Type} (f : α → β) (l : List α) : l.toArray.map f = (l.map f).toArray := List.map_toArray ..
theorem zc {α β : Type} (f : α → β) (a : α) (l : List α) : (a :: l).map f = f a :: l.map f := List.map_cons ..
theorem zn {α β : Type} (f : α → β) : ([] : List α).map f = [] := List.map_nil ..
class Gr (w w2 : World) : Prop where out : Below w.heap.size w w2
instance Gr.r (w : World) : Gr w w := ⟨Below.refl _ _⟩
instance Gr.a (w w2 : World) (o : Obj) [h : Gr w w2] : Gr w (w2.alloc o) := ⟨below_alloc h.out o⟩
instance Gr.d (w w2 : World) [h : Gr w w2] : Gr w w2.drew := ⟨below_drew1 h.out⟩
instance Gr.n (w w2 : World) (m : Nat) [h : Gr w w2] : Gr w (w2.drewN m) := ⟨pw_below_drewN h.out m⟩
class Ge (w : World) (i : Nat) : Prop where mk :: out : w.heap.size ≤ i
class Gz (w W W2 : World) : Prop where out : Below w.heap.size w W → Below w.heap.size w W2
instance Gz.r (w W : World) : Gz w W W := ⟨id⟩
instance Gz.a (w W W2 : World) (o : Obj) [h : Gz w W W2] : Gz w W (W2.alloc o) := ⟨fun x => below_alloc (h.out x) o⟩
instance Gz.d (w W W2 : World) [h : Gz w W W2] : Gz w W W2.drew := ⟨fun x => below_drew1 (h.out x)⟩
instance Gz.n (w W W2 : World) (m : Nat) [h : Gz w W W2] : Gz w W (W2.drewN m) := ⟨fun x => pw_below_drewN (h.out x) m⟩
instance Gz.s (w W W2 : World) (i n : Nat) (v : Value) [h : Gz w W W2] [g : Ge w i] : Gz w W (W2.setCell ⟨i, n, none⟩ v) := ⟨fun x => below_set (h.out x) g.out⟩
theorem zB {w W W2 : World} (h : Below w.heap.size w W) [g : Gz w W W2] : Below w.heap.size w W2 := g.out h
theorem zS {w W W2 : World} (h : Below w.heap.size w W) [g : Gz w W W2] : w.heap.size ≤ W2.heap.size := below_size (zB h)
theorem zk {w w2 : World} {i : Nat} {o : Obj} (h : w.heap[i]? = some o) [g : Gr w w2] : w2.heap[i]? = some o := blk_below h g.out
section
variable {α : Type} {d : Kd α} {e : Nat} {w w2 : World} {base : Nat} {ok : Nat → Prop} {v : Value} {xs : List α}
theorem zR (h : d.R e w base ok v xs) [g : Gr w w2] : d.R e w2 base ok v xs := Kd.R_below h g.out
theorem zC {A : Option Addr} {n : Nat} (h : d.C w A n xs) [g : Gr w w2] : d.C w2 A n xs := Kd.C_below h g.out
end
end Go.Proofs.YthednemidaegkaaGreatDoor.PFnLists
