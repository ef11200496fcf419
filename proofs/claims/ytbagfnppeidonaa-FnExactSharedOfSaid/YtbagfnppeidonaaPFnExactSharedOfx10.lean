-- Written by a program of this session (a turned copy of the kit's print; see NOTES.md).
import Derived.Test.YtbagfnppeidonaaPFnExactSharedOfx0
import Derived.Test.YtbagfnppeidonaaPFnExactSharedOfx1
import Derived.Test.YtbagfnppeidonaaPFnExactSharedOfx3
namespace Go.Proofs.Ytbagfnppeidonaa.PFnExactSharedOf
open Go.RowKit Go.Proofs.YtbagfnppeidonaaW.PrintWords Go.Proofs.YtbagfnppeidonaaW.PrintLast Go.Proofs.YtbagfnppeidonaaW.PrintMore
attribute [local go_sem] max2_int min2_int max_two min_two max_three min_three max_four min_four   -- for this text's walks alone
set_option linter.unusedVariables false
set_option linter.unusedSimpArgs false

-- NOT PRINTED: function 173 (slices_partitionOrdered_int)

-- NOT PRINTED: function 154 (slices_pdqsortOrdered_int)

-- NOT PRINTED: function 111 (slices_Sort_int_int)

-- NOT PRINTED: function 112 (slices_Compact_int_int)

/-! ### impl_SortList: function 28 -/
theorem grown_below {w0 w w2 : World} {g : Nat} (hB : Below w0.heap.size w0 w) (hg : w.grownBy w2 (some g)) (hb : w0.heap.size ≤ g) : Below w0.heap.size w0 w2 :=
 ⟨hg.os.trans hB.os, hg.tape.trans hB.tape, hg.output.trans hB.output, Nat.le_trans hB.size hg.size, fun k hk => (hg.block k (Nat.lt_of_lt_of_le hk hB.size) (by intro e; cases e; omega)).trans (hB.block k hk)⟩
theorem sort_own {w0 w : World} {ok : Nat → Prop} {v : Value} {xs : List Int} (hR : Kd.R (Kd.int .i64) 3 w w0.heap.size ok v xs) (hB : Below w0.heap.size w0 w) (hx : xs.length ≤ 1000000000) :
 Calls Try.prog 111 #[v] w fun e w' => e = .returned (.tuple #[]) ∧ Kd.R (Kd.int .i64) 3 w' w0.heap.size ok v (xs.mergeSort fun x y => decide (x ≤ y)) ∧ Below w0.heap.size w0 w' := by
 have hlen : (xs.mergeSort fun x y => decide (x ≤ y)).length = xs.length := List.length_mergeSort ..
 rcases (Kd.own_of_R hR).2 with ⟨rfl, h0⟩ | ⟨g, cap, cur, rfl, hg, hh, hn, hm, hs, ht⟩
 ·obtain rfl : xs = [] := List.length_eq_zero_iff.1 h0
  refine (Try.slices_Sort_int_none none 0 w).mono ?_
  rintro e w' ⟨rfl, hw⟩
  rw [hw]
  exact ⟨rfl, by rw [List.mergeSort_nil]; exact hR, hB⟩
 ·have hgl : g < w.heap.size := (Array.getElem?_eq_some_iff.1 hh).1
  refine (Try.slices_Sort_int g 0 cap xs w (holds_of_blockI hh (by simpa [encs] using ht)) hgl (by omega)).mono ?_
  rintro e w' ⟨rfl, n, os, rfl⟩
  refine ⟨rfl, Kd.R_of_own ?_ hR.1, grown_below hB (grownBy_sortedI _) hg⟩
  have := ownsRow_sortedI (n := n) (os := os) hlen hg hh hn hm hs
  rw [hlen]
  exact this
theorem compact_own {w0 w : World} {ok : Nat → Prop} {v : Value} {xs : List Int} (hR : Kd.R (Kd.int .i64) 3 w w0.heap.size ok v xs) (hB : Below w0.heap.size w0 w) (hx : xs.length ≤ 1000000000) :
 Calls Try.prog 112 #[v] w fun e w' => ∃ v', e = .returned v' ∧ Kd.R (Kd.int .i64) 3 w' w0.heap.size ok v' (Lib.compact xs) ∧ Below w0.heap.size w0 w' := by
 have hle := Lib.compact_length_le xs
 rcases (Kd.own_of_R hR).2 with ⟨rfl, h0⟩ | ⟨g, cap, cur, rfl, hg, hh, hn, hm, hs, ht⟩
 ·obtain rfl : xs = [] := List.length_eq_zero_iff.1 h0
  refine (Try.slices_Compact_int_empty none 0 w).mono ?_
  rintro e w' ⟨rfl, rfl⟩
  exact ⟨_, rfl, hR, hB⟩
 ·refine (Try.slices_Compact_int g 0 cap xs w (holds_of_blockI hh (by simpa [encs] using ht)) (by omega) hn).mono ?_
  rintro e w' ⟨rfl, n, rfl⟩
  have hz : (Lib.compact xs ++ List.replicate (xs.length - (Lib.compact xs).length) (0 : Int)).length = xs.length := by simp; omega
  have ho := ownsRow_sortedI (n := n) (os := #[]) hz hg hh hn hm hs
  have hgr := grownBy_sortedI (w := w) (g := g) (n := n) (os := #[]) (Lib.compact xs ++ List.replicate (xs.length - (Lib.compact xs).length) (0 : Int)).toArray
  rw [Go.Sort.grow_empty] at ho hgr
  refine ⟨_, rfl, Kd.R_of_own ?_ hR.1, grown_below hB hgr hg⟩
  rcases ho.2 with ⟨h1, _⟩ | ⟨g', cap', cur', h1, h2, h3, h4, h5, h6, h7⟩
  ·cases h1
  ·cases h1
   refine ⟨by simp [encs], .inr ⟨g, cap, cur', rfl, h2, h3, by omega, h5, h6, ?_⟩⟩
   have h8 := congrArg (fun l => l.take (Lib.compact xs).length) h7
   simp only [List.take_take, List.map_append, Nat.mul_one] at h8
   rw [Nat.min_eq_left hle, List.take_left' (by simp)] at h8
   simpa [encs] using h8
def impl_SortList.f (l0 : List Int) : Option (List Int) := if l0.length ≤ 1000000000 then some (Lib.compact (l0.mergeSort fun x y => decide (x ≤ y))) else none
set_option maxHeartbeats 8000000 in
set_option maxRecDepth 100000 in
theorem impl_SortList.calls (A0 : Option Addr) (c0 : Nat) (l0 : List Int) (r : List Int) (w : World) (hr0 : Kd.C (Kd.int .i64) w A0 l0.length l0) (hc0 : l0.length ≤ c0) (h : impl_SortList.f l0 = some r) :
 Calls Try.prog 28 #[.slice A0 l0.length c0] w fun e w' => ∃ v0_ : Value, e = .returned (v0_) ∧ Kd.R (Kd.int .i64) 3 w' w.heap.size (fun _ => True) v0_ r ∧ Below w.heap.size w w' := by
 have HR0 := Aside0.mk hr0
 clear hr0
 have HB := Aside0.mk (Below.refl w.heap.size w)
 unfold impl_SortList.f at h
 by_cases hn : l0.length ≤ 1000000000
 ·rw [if_pos hn] at h
  obtain ⟨s, hs⟩ : ∃ s, s = l0.mergeSort fun x y => decide (x ≤ y) := ⟨_, rfl⟩
  have hsl : s.length ≤ 1000000000 := by rw [hs, List.length_mergeSort]; exact hn
  rw [← hs] at h
  have HZ := Aside0.mk (Option.some.inj h)
  have HS := Aside0.mk hs
  have HN := Aside0.mk hn
  have HL := Aside0.mk hsl
  clear h hs hn hsl
  go_enter Try.func28, Try.ntmps28
  go_wp2_with (first
   | ((with_reducible refine gate_dst (N := 4) rfl ?_); refine Kd.R_lit (Kd.int .i64) _ 3 ?hg (N := 4) ?hd (xs := ([] : List Int)) (inner := []) (ok := fun _ => True) (okp := fun _ => True) ?hr ?hp (fun _ hk => hk) trivial (Below.refl _ _) (Nat.le_refl _) (by simp) ?_; (case hd => rfl); (case hg => rfl); (case hr => first | (go_simp; done) | (go_simp; rfl)); (case hp => exact (Reps.none _ _)); intro v1 w1 ho1 hb hg_ hnew_; clear hg_ hnew_; have n0_ := Aside0.mk (Kd.R_lower ho1 (zS HB.out)); have n1_ := Aside0.mk (below_step (zB HB.out) hb); clear HB; have HO1 := n0_; have HB := n1_; clear n0_ n1_; clear hb ho1)
   | ((with_reducible refine gate_builtin (b := .append) (xs := #[.tmp 4, .tmp 5]) rfl ?_); at_builtin; refine Kd.R_append_rows (Kd.int .i64) (w0 := w) w.heap.size rfl (.tmp 4) (.tmp 5) 33 3 (.int .i64 0) 8 rfl Try.underlying33 info3 rfl (by decide) (by omega) v1 [] l0 _ _ _ (fun _ => True) (fun _ => False) rfl rfl ?aO ?aR (fun _ _ h => h) (fun _ h => h.elim) ?aF ?aB ?aS ?aL ?_; (case aR => repeat (first | exact (Kd.C_below HR0.out HB.out) | (with_reducible refine Kd.C_alloc ?_ _) | (with_reducible refine Kd.C_drewN ?_ _) | (with_reducible refine Kd.C_drew ?_))); (case aB => exact (zB HB.out)); (case aF => exact (fun _ _ => trivial)); (case aO => exact (zR HO1.out)); (case aS => exact (zS HB.out)); (case aL => have := HN.out; simp; omega); intro v2 w2 ho hb hg hat; rw [List.nil_append] at ho; have n0_ := Aside0.mk (hb); have n1_ := Aside0.mk (ho); clear HB; clear HO1; have HB := n0_; have HO2 := n1_; clear n0_ n1_; clear ho hb hg hat)
   | (go_at_call 111; refine (sort_own (w0 := w) HO2.out HB.out HN.out).mono ?_; rintro e w3 ⟨rfl, ho, hb⟩; rw [← HS.out] at ho; clear HB HO2; have HB := Aside0.mk hb; have HO3 := Aside0.mk ho; clear ho hb)
   | (go_at_call 112; refine (compact_own (w0 := w) HO3.out HB.out HL.out).mono ?_; rintro e w4 ⟨v3, rfl, ho, hb⟩; rw [HZ.out] at ho; clear HB HO3; have HB := Aside0.mk hb; have HO4 := Aside0.mk ho; clear ho hb))
  go_ret
  exact ⟨_, rfl, zR HO4.out, zB HB.out⟩
 ·rw [if_neg hn] at h
  exact absurd h (by simp)

/-! ### slices_Index_int_int: function 156 -/
def slices_Index_int_int.l0 : Nat → List Int → Int → Int → Int → Option (Int)
 | 0, _, _, _, _ => none
 | k + 1, x0, x1, x7, x8 => if x8 < x7 then (if 0 ≤ x8 then (if x8 < (x0.length : Int) then (if x1 = (rd x0 x8) then (some x8) else (slices_Index_int_int.l0 k x0 x1 x7 (wrap64 (x8 + 1)))) else (none)) else (none)) else (some (-1))
def slices_Index_int_int.f (k : Nat) (l0 : List Int) (a1 : Int) : Option (Int) := slices_Index_int_int.l0 k l0 a1 (l0.length : Int) 0
theorem slices_Index_int_int.mono_l : ∀ k, (∀ y0 y1 y2 y3, LeO (slices_Index_int_int.l0 k y0 y1 y2 y3) (slices_Index_int_int.l0 (k + 1) y0 y1 y2 y3))
 | 0 => fun _ _ _ _ r h => by simp [slices_Index_int_int.l0] at h
 | k + 1 => by
  have ih0 := slices_Index_int_int.mono_l k
  ·intro y0 y1 y2 y3
   unfold slices_Index_int_int.l0
   repeat' first
   | (with_reducible first | exact ih0 _ _ _ _ | exact LeO.refl _ | exact LeO.none _ | refine LeO.ite ?_ ?_ | refine LeO.bind ?_ (fun _ => ?_))
   | exact LeO.none _
   | refine LeO.ite ?_ ?_
   | refine LeO.bind ?_ (fun _ => ?_)
theorem slices_Index_int_int.mono : ∀ a0 a1 k, LeO (slices_Index_int_int.f k a0 a1) (slices_Index_int_int.f (k + 1) a0 a1) := by
 intro a0 a1 k
 have ih0 := slices_Index_int_int.mono_l k
 unfold slices_Index_int_int.f
 repeat' first
   | (with_reducible first | exact ih0 _ _ _ _ | exact LeO.refl _ | exact LeO.none _ | refine LeO.ite ?_ ?_ | refine LeO.bind ?_ (fun _ => ?_))
   | exact LeO.none _
   | refine LeO.ite ?_ ?_
   | refine LeO.bind ?_ (fun _ => ?_)
set_option maxHeartbeats 8000000 in
set_option maxRecDepth 100000 in
theorem slices_Index_int_int.calls (k : Nat) (A0 : Option Addr) (c0 : Nat) (l0 : List Int) (a1 : Int) (r : Int) (w : World) (hr0 : Kd.C (Kd.int .i64) w A0 l0.length l0) (hc0 : l0.length ≤ c0) (h : slices_Index_int_int.f k l0 a1 = some r) :
  Calls Try.prog 156 #[.slice A0 l0.length c0, .int .i64 a1] w fun e w' => e = .returned (.int .i64 r) ∧ Drawn0 w w' := by
 have HR0 := Aside0.mk hr0
 have HC0 := Aside0.mk hc0
 clear hr0 hc0
 have H : (slices_Index_int_int.l0 k l0 a1 (l0.length : Int) 0) = some r := h
 clear h
 have H' := Aside0.mk H
 clear H
 go_enter Try.func156, Try.ntmps156
 go_wp2
 go_loopg [8] k (fun kq v8 w' => ∃ (x8_1 : Int), v8 = .int .i64 x8_1 ∧ Aside0 (slices_Index_int_int.l0 kq l0 a1 (l0.length : Int) x8_1 = some r) ∧ Aside0 (kq ≤ k) ∧ Drawn0 w w')
 case atStart => exact ⟨(0), (by first | rfl | (simp; done) | (simp [*]; done)), H', ⟨Nat.le_refl _⟩, by repeat (first | exact Drawn0.refl _ | apply Drawn0.step)⟩
 case round =>
  clear H'
  try clear c1
  try clear p2
  obtain ⟨x8_1, rfl, HA, HK1, ⟨m1, rfl⟩⟩ := hrel
  cases gk with
  | zero => exact absurd HA.out (by simp [slices_Index_int_int.l0])
  | succ k1 =>
   have H := HA.out
   clear HA
   simp only [slices_Index_int_int.l0] at H
   by_cases c3 : x8_1 < (l0.length : Int)
   ·rw [if_pos c3] at H
    have c3b0 : decide (x8_1 < (l0.length : Int)) = true := decide_eq_true c3
    clear c3
    obtain ⟨c4, H⟩ := zi H
    have c4b0 : decide (0 ≤ x8_1) = true := decide_eq_true c4
    clear c4
    obtain ⟨c5, H⟩ := zi H
    have c5b0 : decide (x8_1 < (l0.length : Int)) = true := decide_eq_true c5
    clear c5
    by_cases c6 : a1 = (rd l0 x8_1)
    ·rw [if_pos c6] at H
     have c6b0 : (a1 == (rd l0 x8_1)) = true := beq_iff_eq.mpr c6
     have c6b1 : (a1 != (rd l0 x8_1)) = false := bne_eq_false_iff_eq.mpr c6
     clear c6
     obtain rfl := Option.some.inj H
     have p304 : 0 ≤ (x8_1 : Int) := of_decide_eq_true (by assumption)
     have q304 : x8_1 < (l0.length : Int) := of_decide_eq_true (by assumption)
     obtain ⟨ad304, e304, hx304_0⟩ := Kd.at_int HR0.out x8_1 p304 q304
     cases e304
     replace p304 := eq_true p304
     replace q304 := eq_true q304
     go_wp2
     go_ret
     exact ⟨by first | rfl | (simp; done) | (simp [*]; done), by repeat (first | exact Drawn0.refl _ | apply Drawn0.step)⟩
    ·rw [if_neg c6] at H
     have c6b0 : (a1 == (rd l0 x8_1)) = false := beq_eq_false_iff_ne.mpr c6
     have c6b1 : (a1 != (rd l0 x8_1)) = true := bne_iff_ne.mpr c6
     have H' := Aside0.mk H
     clear H
     have p304 : 0 ≤ (x8_1 : Int) := of_decide_eq_true (by assumption)
     have q304 : x8_1 < (l0.length : Int) := of_decide_eq_true (by assumption)
     obtain ⟨ad304, e304, hx304_0⟩ := Kd.at_int HR0.out x8_1 p304 q304
     cases e304
     replace p304 := eq_true p304
     replace q304 := eq_true q304
     go_wp2
     go_roundg k1
     case measure => have := HK1.out; omega
     case rel => exact ⟨(wrap64 (x8_1 + 1)), (by first | rfl | (simp; done) | (simp [*]; done)), H', ⟨by have := HK1.out; omega⟩, by repeat (first | exact Drawn0.refl _ | apply Drawn0.step)⟩
   ·rw [if_neg c3] at H
    have c3b0 : decide (x8_1 < (l0.length : Int)) = false := decide_eq_false c3
    clear c3
    obtain rfl := Option.some.inj H
    go_wp2
    go_ret
    exact ⟨by first | rfl | (simp; done) | (simp [*]; done), by repeat (first | exact Drawn0.refl _ | apply Drawn0.step)⟩

/-! ### slices_Contains_int_int: function 113 -/
def slices_Contains_int_int.f (k : Nat) (l0 : List Int) (a1 : Int) : Option (Bool) := (slices_Index_int_int.f k l0 a1).bind fun t305 => (some (decide (t305 ≥ 0)))
theorem slices_Contains_int_int.mono : ∀ a0 a1 k, LeO (slices_Contains_int_int.f k a0 a1) (slices_Contains_int_int.f (k + 1) a0 a1) := by
 intro a0 a1 k
 unfold slices_Contains_int_int.f
 repeat' first
   | (with_reducible first | exact slices_Index_int_int.mono _ _ _ | exact LeO.refl _ | exact LeO.none _ | refine LeO.ite ?_ ?_ | refine LeO.bind ?_ (fun _ => ?_))
   | exact LeO.none _
   | refine LeO.ite ?_ ?_
   | refine LeO.bind ?_ (fun _ => ?_)
set_option maxHeartbeats 8000000 in
set_option maxRecDepth 100000 in
theorem slices_Contains_int_int.calls (k : Nat) (A0 : Option Addr) (c0 : Nat) (l0 : List Int) (a1 : Int) (r : Bool) (w : World) (hr0 : Kd.C (Kd.int .i64) w A0 l0.length l0) (hc0 : l0.length ≤ c0) (h : slices_Contains_int_int.f k l0 a1 = some r) :
  Calls Try.prog 113 #[.slice A0 l0.length c0, .int .i64 a1] w fun e w' => e = .returned (.bool r) ∧ Drawn0 w w' := by
 have HR0 := Aside0.mk hr0
 have HC0 := Aside0.mk hc0
 clear hr0 hc0
 have H : ((slices_Index_int_int.f k l0 a1).bind fun t305 => (some (decide (t305 ≥ 0)))) = some r := h
 clear h
 obtain ⟨t305, A3, H⟩ := zb H
 obtain rfl := Option.some.inj H
 go_enter Try.func113, Try.ntmps113
 go_wp2_with (first | ((with_reducible refine gate_callee (f := 156) rfl ?_); refine goesL_ (some 7) rfl rfl Try.func156 (by kernel_rfl) rfl #[.slice A0 l0.length c0, .int .i64 a1] rfl (by (try simp only [za, zc, zn]); first | done | rfl) ?_; (with_reducible refine (slices_Index_int_int.calls k _ _ l0 a1 t305 _ ?side1 ?side2 A3.out).mono ?_); (case side1 => repeat (first | exact HR0.out | (with_reducible refine Kd.C_alloc ?_ _) | (with_reducible refine Kd.C_drewN ?_ _) | (with_reducible refine Kd.C_drew ?_))); (case side2 => exact HC0.out); rintro e w' ⟨rfl, ⟨nd, rfl⟩⟩; refine ⟨_, rfl, ?_⟩))
 go_ret
 exact ⟨by first | rfl | (simp; done) | (simp [*]; done), by repeat (first | exact Drawn0.refl _ | apply Drawn0.step)⟩

/-! ### impl_SharedOf: function 33 -/
def impl_SharedOf.l0 : Nat → List Int → List Int → List Int → Int → Int → Option (List Int)
 | 0, _, _, _, _, _ => none
 | k + 1, x1, x5, x10, x11, x12 => if x12 < x11 then (if 0 ≤ x12 then (if x12 < (x10.length : Int) then ((slices_Contains_int_int.f k x1 (rd x10 x12)).bind fun t313 => (if t313 = true then (if x5.length < 17592186044416 then (impl_SharedOf.l0 k x1 (x5 ++ [rd x10 x12]) x10 x11 (wrap64 (x12 + 1))) else (none)) else (impl_SharedOf.l0 k x1 x5 x10 x11 (wrap64 (x12 + 1))))) else (none)) else (none)) else (some x5)
def impl_SharedOf.f (k : Nat) (l0 : List Int) (l1 : List Int) : Option (List Int) := (impl_SortList.f l0).bind fun t309 => (impl_SharedOf.l0 k l1 (([] : List Int)) t309 (t309.length : Int) 0)
theorem impl_SharedOf.mono_l : ∀ k, (∀ y0 y1 y2 y3 y4, LeO (impl_SharedOf.l0 k y0 y1 y2 y3 y4) (impl_SharedOf.l0 (k + 1) y0 y1 y2 y3 y4))
 | 0 => fun _ _ _ _ _ r h => by simp [impl_SharedOf.l0] at h
 | k + 1 => by
  have ih0 := impl_SharedOf.mono_l k
  ·intro y0 y1 y2 y3 y4
   unfold impl_SharedOf.l0
   repeat' first
   | (with_reducible first | exact ih0 _ _ _ _ _ | exact slices_Contains_int_int.mono _ _ _ | exact LeO.refl _ | exact LeO.none _ | refine LeO.ite ?_ ?_ | refine LeO.bind ?_ (fun _ => ?_))
   | exact LeO.none _
   | refine LeO.ite ?_ ?_
   | refine LeO.bind ?_ (fun _ => ?_)
theorem impl_SharedOf.mono : ∀ a0 a1 k, LeO (impl_SharedOf.f k a0 a1) (impl_SharedOf.f (k + 1) a0 a1) := by
 intro a0 a1 k
 have ih0 := impl_SharedOf.mono_l k
 unfold impl_SharedOf.f
 repeat' first
   | (with_reducible first | exact ih0 _ _ _ _ _ | exact slices_Contains_int_int.mono _ _ _ | exact LeO.refl _ | exact LeO.none _ | refine LeO.ite ?_ ?_ | refine LeO.bind ?_ (fun _ => ?_))
   | exact LeO.none _
   | refine LeO.ite ?_ ?_
   | refine LeO.bind ?_ (fun _ => ?_)
set_option maxHeartbeats 8000000 in
set_option maxRecDepth 100000 in
theorem impl_SharedOf.calls (k : Nat) (A0 : Option Addr) (c0 : Nat) (l0 : List Int) (A1 : Option Addr) (c1 : Nat) (l1 : List Int) (r : List Int) (w : World) (hr0 : Kd.C (Kd.int .i64) w A0 l0.length l0) (hc0 : l0.length ≤ c0) (hr1 : Kd.C (Kd.int .i64) w A1 l1.length l1) (hc1 : l1.length ≤ c1) (h : impl_SharedOf.f k l0 l1 = some r) :
  Calls Try.prog 33 #[.slice A0 l0.length c0, .slice A1 l1.length c1] w fun e w' => ∃ v0_ : Value, e = .returned (v0_) ∧ Kd.R (Kd.int .i64) 3 w' w.heap.size (fun _ => True) v0_ r ∧ Below w.heap.size w w' := by
 have HR0 := Aside0.mk hr0
 have HC0 := Aside0.mk hc0
 clear hr0 hc0
 have HR1 := Aside0.mk hr1
 have HC1 := Aside0.mk hc1
 clear hr1 hc1
 have HB := Aside0.mk (Below.refl w.heap.size w)
 have H : ((impl_SortList.f l0).bind fun t309 => (impl_SharedOf.l0 k l1 (([] : List Int)) t309 (t309.length : Int) 0)) = some r := h
 clear h
 obtain ⟨y306, Ny306⟩ : ∃ y_ : List Int, Aside0 (y_ = (([] : List Int))) := ⟨_, ⟨rfl⟩⟩
 (try rw [Option.bind_some] at H)
 (try rw [← Ny306.out] at H)
 obtain ⟨t309, A3, H⟩ := zb H
 have H' := Aside0.mk H
 clear H
 go_enter Try.func33, Try.ntmps33
 go_wp2_with (first | ((with_reducible refine gate_dst (N := 8) rfl ?_); refine Kd.R_lit (Kd.int .i64) _ 3 ?hg (N := 8) ?hd (xs := ([] : List Int)) (inner := []) (ok := fun _ => True) (okp := fun _ => True) ?hr ?hp (fun _ hk => hk) trivial (Below.refl _ _) (Nat.le_refl _) (by simp) ?_; (case hd => rfl); (case hg => rfl); (case hr => first | (go_simp; done) | (go_simp; rfl)); (case hp => exact (Reps.none _ _)); intro v307 w4 ho5 hb hg_ hnew_; clear hg_ hnew_; (first | rw [← Ny306.out] at ho5 | (simp only [Int.reduceToNat] at ho5; rw [← Ny306.out] at ho5)); have n0_ := Aside0.mk (Kd.R_lower ho5 (zS HB.out)); have n1_ := Aside0.mk (below_step (zB HB.out) hb); clear HB; have HO308 := n0_; have HB := n1_; clear n0_ n1_; clear hb ho5) | ((with_reducible refine gate_callee (f := 28) rfl ?_); refine goesL_ (some 10) rfl rfl Try.func28 (by kernel_rfl) rfl #[.slice A0 l0.length c0] rfl (by (try simp only [za, zc, zn]); first | done | rfl) ?_; (with_reducible refine (impl_SortList.calls _ _ l0 t309 _ ?side1 ?side2 A3.out).mono ?_); (case side1 => exact zC (Kd.C_below HR0.out HB.out)); (case side2 => exact HC0.out); rintro e w6 ⟨v310, rfl, ho0, hb⟩; refine ⟨_, rfl, ?_⟩; have n0_ := Aside0.mk (Kd.R_elder' (zR HO308.out) (Kd.R_base ho0) hb); have n1_ := Aside0.mk (Kd.R_lower (Kd.R_new' ho0 (Kd.R_lt (zR HO308.out))) (zS HB.out)); have n2_ := Aside0.mk (below_step (zB HB.out) hb); clear HO308; clear HB; have HO308 := n0_; have HO311 := n1_; have HB := n2_; clear n0_ n1_ n2_; (try clear hb); (try clear hb2); (try clear hk); (try clear hi); (try clear ho0); obtain ⟨Ao7, co7, eo7⟩ := Kd.R_slice HO311.out; subst eo7))
 go_loopg [5, 12] k (fun kq v5 v12 w' => ∃ (x5_1 : List Int) (x12_1 : Int), v12 = .int .i64 x12_1 ∧ Aside0 (impl_SharedOf.l0 kq l1 x5_1 t309 (t309.length : Int) x12_1 = some r) ∧ Aside0 (kq ≤ k) ∧ Aside0 (Kd.R (Kd.int .i64) 3 w' w.heap.size (fun k_ => some k_ ≠ ((.slice Ao7 t309.length co7) : Value).ownBlock) v5 x5_1) ∧ Aside0 (Kd.R (Kd.int .i64) 3 w' w.heap.size (fun k_ => some k_ ≠ (v5 : Value).ownBlock) (.slice Ao7 t309.length co7) t309) ∧ Aside0 (Below w.heap.size w w'))
 case atStart => exact ⟨(y306), (0), (by first | rfl | (simp; done) | (simp [*]; done)), H', ⟨Nat.le_refl _⟩, ⟨zR (Kd.R_mono HO308.out (fun _ hk => hk.2))⟩, ⟨zR (Kd.R_mono HO311.out (fun _ hk => hk.2))⟩, ⟨zB HB.out⟩⟩
 case round =>
  clear H'
  try clear c1
  try clear c2
  try clear p2
  try clear c3
  obtain ⟨x5_1, x12_1, rfl, HA, HK1, HO_5, HO_10, HB⟩ := hrel
  cases gk with
  | zero => exact absurd HA.out (by simp [impl_SharedOf.l0])
  | succ k1 =>
   have H := HA.out
   clear HA
   simp only [impl_SharedOf.l0] at H
   by_cases c8 : x12_1 < (t309.length : Int)
   ·rw [if_pos c8] at H
    have c8b0 : decide (x12_1 < (t309.length : Int)) = true := decide_eq_true c8
    clear c8
    obtain ⟨c9, H⟩ := zi H
    have c9b0 : decide (0 ≤ x12_1) = true := decide_eq_true c9
    clear c9
    obtain ⟨c10, H⟩ := zi H
    have c10b0 : decide (x12_1 < (t309.length : Int)) = true := decide_eq_true c10
    clear c10
    obtain ⟨t313, A11, H⟩ := zb H
    have HU12 := Aside0.mk H
    clear H
    have p312 : 0 ≤ (x12_1 : Int) := of_decide_eq_true (by assumption)
    have q312 : x12_1 < (t309.length : Int) := of_decide_eq_true (by assumption)
    obtain ⟨ad312, e312, hx312_0⟩ := Kd.at_int (Kd.R_reads' HO_10.out).2.2 x12_1 p312 q312
    cases e312
    replace p312 := eq_true p312
    replace q312 := eq_true q312
    go_upto_if 18 with (first | ((with_reducible refine gate_callee (f := 113) rfl ?_); refine goesL_ (some 18) rfl rfl Try.func113 (by kernel_rfl) rfl #[.slice A1 l1.length c1, .int .i64 (rd t309 x12_1)] rfl (by (try simp only [za, zc, zn]); first | done | rfl) ?_; (with_reducible refine (slices_Contains_int_int.calls k1 _ _ l1 (rd t309 x12_1) t313 _ ?side1 ?side2 A11.out).mono ?_); (case side1 => exact zC (Kd.C_below HR1.out HB.out)); (case side2 => exact HC1.out); rintro e w' ⟨rfl, ⟨nd, rfl⟩⟩; refine ⟨_, rfl, ?_⟩))
    (try simp only [Act.put, List.setIfInBounds_toArray, List.set_cons_zero, List.set_cons_succ])
    have H := HU12.out
    clear HU12
    by_cases c13 : t313 = true
    ·subst c13
     rw [zT] at H
     obtain ⟨c14, H⟩ := zi H
     have LMc14 := Aside0.mk c14
     clear c14
     obtain ⟨y314, Ny314⟩ : ∃ y_ : List Int, Aside0 (y_ = (x5_1 ++ [rd t309 x12_1])) := ⟨_, ⟨rfl⟩⟩
     (try rw [Option.bind_some] at H)
     (try rw [← Ny314.out] at H)
     have H' := Aside0.mk H
     clear H
     go_wp2_with (first | ((with_reducible refine gate_builtin (b := .append) (xs := #[.tmp 19, .tmp 21]) rfl ?_); at_builtin; refine Kd.R_append (Kd.int .i64) (w0 := w) w.heap.size rfl (.tmp 19) (.tmp 21) 33 3 (.int .i64 0) 8 rfl Try.underlying33 info3 rfl (by decide) (by omega) u5 x5_1 (rd t309 x12_1) [.int .i64 (rd t309 x12_1)] (fun k_ => some k_ ≠ (.slice (some ad312) t309.length co7 : Value).ownBlock) (fun _ => False) rfl rfl ?aP (fun _ hk => hk.elim) ?aF ?aO ?aB ?aS ?aL ?_; (case aP => exact rfl); (case aB => exact (zB HB.out)); (case aF => exact (fun k_ hk => Kd.fresh' (Kd.R_lt (zR HO_10.out)) k_ hk)); (case aO => exact (zR HO_5.out)); (case aS => exact (zS HB.out)); (case aL => have := LMc14.out; omega); intro v315 w15 ho hb hg hat; rw [← Ny314.out] at ho; have n0_ := Aside0.mk (Kd.R_after (ok := (fun _ => True)) (zR (Kd.R_mono HO_10.out (fun _ hk => ⟨trivial, by first | exact hk | (rw [qO] at hk ⊢; exact hk)⟩))) hg hat); have n1_ := Aside0.mk (hb); have n2_ := Aside0.mk (ho); clear HO_10; clear HB; clear HO_5; have HO_10 := n0_; have HB := n1_; have HO316 := n2_; clear n0_ n1_ n2_; clear ho hb hg hat))
     go_roundg k1
     case measure => have := HK1.out; omega
     case rel => exact ⟨(y314), (wrap64 (x12_1 + 1)), (by first | rfl | (simp; done) | (simp [*]; done)), H', ⟨by have := HK1.out; omega⟩, ⟨zR HO316.out⟩, ⟨zR (Kd.R_mono HO_10.out (fun _ hk => hk.2))⟩, ⟨zB HB.out⟩⟩
    ·replace c13 := Bool.eq_false_iff.mpr c13
     subst c13
     rw [zF] at H
     have H' := Aside0.mk H
     clear H
     go_wp2
     go_roundg k1
     case measure => have := HK1.out; omega
     case rel => exact ⟨(x5_1), (wrap64 (x12_1 + 1)), (by first | rfl | (simp; done) | (simp [*]; done)), H', ⟨by have := HK1.out; omega⟩, ⟨zR HO_5.out⟩, ⟨zR HO_10.out⟩, ⟨zB HB.out⟩⟩
   ·rw [if_neg c8] at H
    have c8b0 : decide (x12_1 < (t309.length : Int)) = false := decide_eq_false c8
    clear c8
    obtain rfl := Option.some.inj H
    go_wp2
    go_ret
    exact ⟨_, by first | rfl | (simp [errW_none, errW_some] <;> rfl) | (simp [*, errW_none, errW_some] <;> rfl), zR (Kd.R_mono HO_5.out (fun _ hk => trivial)), zB HB.out⟩

/-! ### laws_FnExactSharedOf: function 6 -/
def laws_FnExactSharedOf.j0 : Nat → List Int → List Int → List Int → List Int → Bool → Option (Bool)
 | 0, _, _, _, _, _ => none
 | k + 1, x0, x1, x5, x8, x58 => if x58 = true then (some false) else ((laws_markIntS.f k x8 1).bind fun bt349 => ((laws_heldIntS.f k bt349.2 1).bind fun t351 => (if t351 < 0 then (some false) else (if t351 = bt349.1 then ((laws_toIntS.f k x0).bind fun t352 => ((laws_toIntS.f k x1).bind fun t355 => ((impl_SharedOf.f k t352 t355).bind fun t358 => ((laws_eqIntS.f k t358 x5).bind fun t361 => (if t361 = true then ((laws_heldIntS.f k bt349.2 1).bind fun t362 => (if t362 < 0 then (some false) else (if t362 = bt349.1 then (some true) else (some false)))) else (some false)))))) else (some false)))))
def laws_FnExactSharedOf.f (k : Nat) (l0 : List Int) (l1 : List Int) : Option (Bool) := if (l0.length : Int) > 1048576 then (some true) else (if (l1.length : Int) > 1048576 then (some true) else ((laws_toIntS.f k l0).bind fun t317 => ((laws_toIntS.f k l1).bind fun t320 => ((spec_SharedOf.f k t317 t320).bind fun t323 => ((laws_toIntS.f k l0).bind fun t326 => ((laws_toIntS.f k l1).bind fun t329 => ((impl_SharedOf.f k t326 t329).bind fun t332 => ((laws_eqIntS.f k t332 t323).bind fun t335 => (if t335 = true then ((laws_toIntS.f k l0).bind fun t336 => ((laws_eqIntS.f k t326 t336).bind fun t339 => (if t339 = true then ((laws_toIntS.f k l1).bind fun t340 => ((laws_eqIntS.f k t329 t340).bind fun t343 => (if t343 = true then ((laws_markIntS.f k t326 1).bind fun bt344 => ((laws_markIntS.f k t329 bt344.1).bind fun bt346 => (if bt346.1 < 0 then (laws_FnExactSharedOf.j0 k l0 l1 t323 t332 true) else ((laws_eqIntS.f k t332 t323).bind fun t348 => (laws_FnExactSharedOf.j0 k l0 l1 t323 t332 (!t348)))))) else (some false)))) else (some false)))) else (some false))))))))))
theorem laws_FnExactSharedOf.mono_l : ∀ k, (∀ y0 y1 y2 y3 y4, LeO (laws_FnExactSharedOf.j0 k y0 y1 y2 y3 y4) (laws_FnExactSharedOf.j0 (k + 1) y0 y1 y2 y3 y4))
 | 0 => fun _ _ _ _ _ r h => by simp [laws_FnExactSharedOf.j0] at h
 | k + 1 => by
  have ih0 := laws_FnExactSharedOf.mono_l k
  ·intro y0 y1 y2 y3 y4
   unfold laws_FnExactSharedOf.j0
   repeat' first
   | (with_reducible first | exact ih0 _ _ _ _ _ | exact impl_SharedOf.mono _ _ _ | exact laws_eqIntS.mono _ _ _ | exact laws_heldIntS.mono _ _ _ | exact laws_markIntS.mono _ _ _ | exact laws_toIntS.mono _ _ | exact spec_SharedOf.mono _ _ _ | exact LeO.refl _ | exact LeO.none _ | refine LeO.ite ?_ ?_ | refine LeO.bind ?_ (fun _ => ?_))
   | exact LeO.none _
   | refine LeO.ite ?_ ?_
   | refine LeO.bind ?_ (fun _ => ?_)
theorem laws_FnExactSharedOf.mono : ∀ a0 a1 k, LeO (laws_FnExactSharedOf.f k a0 a1) (laws_FnExactSharedOf.f (k + 1) a0 a1) := by
 intro a0 a1 k
 have ih0 := laws_FnExactSharedOf.mono_l k
 unfold laws_FnExactSharedOf.f
 repeat' first
   | (with_reducible first | exact ih0 _ _ _ _ _ | exact impl_SharedOf.mono _ _ _ | exact laws_eqIntS.mono _ _ _ | exact laws_heldIntS.mono _ _ _ | exact laws_markIntS.mono _ _ _ | exact laws_toIntS.mono _ _ | exact spec_SharedOf.mono _ _ _ | exact LeO.refl _ | exact LeO.none _ | refine LeO.ite ?_ ?_ | refine LeO.bind ?_ (fun _ => ?_))
   | exact LeO.none _
   | refine LeO.ite ?_ ?_
   | refine LeO.bind ?_ (fun _ => ?_)
set_option maxHeartbeats 8000000 in
set_option maxRecDepth 100000 in
theorem laws_FnExactSharedOf.calls (k : Nat) (A0 : Option Addr) (c0 : Nat) (l0 : List Int) (A1 : Option Addr) (c1 : Nat) (l1 : List Int) (r : Bool) (w : World) (hr0 : Kd.C (Kd.int .i64) w A0 l0.length l0) (hc0 : l0.length ≤ c0) (hr1 : Kd.C (Kd.int .i64) w A1 l1.length l1) (hc1 : l1.length ≤ c1) (h : laws_FnExactSharedOf.f k l0 l1 = some r) :
  Calls Try.prog 6 #[.slice A0 l0.length c0, .slice A1 l1.length c1] w fun e w' => e = .returned (.bool r) ∧ Below w.heap.size w w' := by
 have HR0 := Aside0.mk hr0
 have HC0 := Aside0.mk hc0
 clear hr0 hc0
 have HR1 := Aside0.mk hr1
 have HC1 := Aside0.mk hc1
 clear hr1 hc1
 have HB := Aside0.mk (Below.refl w.heap.size w)
 have H : (if (l0.length : Int) > 1048576 then (some true) else (if (l1.length : Int) > 1048576 then (some true) else ((laws_toIntS.f k l0).bind fun t317 => ((laws_toIntS.f k l1).bind fun t320 => ((spec_SharedOf.f k t317 t320).bind fun t323 => ((laws_toIntS.f k l0).bind fun t326 => ((laws_toIntS.f k l1).bind fun t329 => ((impl_SharedOf.f k t326 t329).bind fun t332 => ((laws_eqIntS.f k t332 t323).bind fun t335 => (if t335 = true then ((laws_toIntS.f k l0).bind fun t336 => ((laws_eqIntS.f k t326 t336).bind fun t339 => (if t339 = true then ((laws_toIntS.f k l1).bind fun t340 => ((laws_eqIntS.f k t329 t340).bind fun t343 => (if t343 = true then ((laws_markIntS.f k t326 1).bind fun bt344 => ((laws_markIntS.f k t329 bt344.1).bind fun bt346 => (if bt346.1 < 0 then (laws_FnExactSharedOf.j0 k l0 l1 t323 t332 true) else ((laws_eqIntS.f k t332 t323).bind fun t348 => (laws_FnExactSharedOf.j0 k l0 l1 t323 t332 (!t348)))))) else (some false)))) else (some false)))) else (some false))))))))))) = some r := h
 clear h
 by_cases c3 : (l0.length : Int) > 1048576
 ·rw [if_pos c3] at H
  have c3b0 : decide (1048576 < (l0.length : Int)) = true := decide_eq_true c3
  have c3b1 : decide (1048576 < l0.length) = true := decide_eq_true (by omega)
  clear c3
  obtain rfl := Option.some.inj H
  go_enter Try.func6, Try.ntmps6
  go_wp2
  go_ret
  exact ⟨by first | rfl | (simp [errW_none, errW_some] <;> rfl) | (simp [*, errW_none, errW_some] <;> rfl), zB HB.out⟩
 ·rw [if_neg c3] at H
  have c3b0 : decide (1048576 < (l0.length : Int)) = false := decide_eq_false c3
  have c3b1 : decide (1048576 < l0.length) = false := decide_eq_false (by omega)
  clear c3
  by_cases c4 : (l1.length : Int) > 1048576
  ·rw [if_pos c4] at H
   have c4b0 : decide (1048576 < (l1.length : Int)) = true := decide_eq_true c4
   have c4b1 : decide (1048576 < l1.length) = true := decide_eq_true (by omega)
   clear c4
   obtain rfl := Option.some.inj H
   go_enter Try.func6, Try.ntmps6
   go_wp2
   go_ret
   exact ⟨by first | rfl | (simp [errW_none, errW_some] <;> rfl) | (simp [*, errW_none, errW_some] <;> rfl), zB HB.out⟩
  ·rw [if_neg c4] at H
   have c4b0 : decide (1048576 < (l1.length : Int)) = false := decide_eq_false c4
   have c4b1 : decide (1048576 < l1.length) = false := decide_eq_false (by omega)
   clear c4
   obtain ⟨t317, A5, H⟩ := zb H
   obtain ⟨t320, A6, H⟩ := zb H
   obtain ⟨t323, A7, H⟩ := zb H
   obtain ⟨t326, A8, H⟩ := zb H
   obtain ⟨t329, A9, H⟩ := zb H
   obtain ⟨t332, A10, H⟩ := zb H
   obtain ⟨t335, A11, H⟩ := zb H
   have HU12 := Aside0.mk H
   clear H
   go_enter Try.func6, Try.ntmps6
   go_upto_if 34 with (first | ((with_reducible refine gate_callee (f := 27) rfl ?_); refine goesL_ (some 20) rfl rfl Try.func27 (by kernel_rfl) rfl #[.slice A0 l0.length c0] rfl (by (try simp only [za, zc, zn]); first | done | rfl) ?_; (with_reducible refine (laws_toIntS.calls k _ _ l0 t317 _ ?side1 ?side2 A5.out).mono ?_); (case side1 => repeat (first | exact HR0.out | (with_reducible refine Kd.C_alloc ?_ _) | (with_reducible refine Kd.C_drewN ?_ _) | (with_reducible refine Kd.C_drew ?_))); (case side2 => exact HC0.out); rintro e w13 ⟨v318, rfl, ho0, hb⟩; refine ⟨_, rfl, ?_⟩; have n0_ := Aside0.mk (Kd.R_lower ho0 (zS HB.out)); have n1_ := Aside0.mk (below_step (zB HB.out) hb); clear HB; have HO319 := n0_; have HB := n1_; clear n0_ n1_; (try clear hb); (try clear hb2); (try clear hk); (try clear hi); (try clear ho0)) | ((with_reducible refine gate_callee (f := 27) rfl ?_); refine goesL_ (some 22) rfl rfl Try.func27 (by kernel_rfl) rfl #[.slice A1 l1.length c1] rfl (by (try simp only [za, zc, zn]); first | done | rfl) ?_; (with_reducible refine (laws_toIntS.calls k _ _ l1 t320 _ ?side1 ?side2 A6.out).mono ?_); (case side1 => exact zC (Kd.C_below HR1.out HB.out)); (case side2 => exact HC1.out); rintro e w14 ⟨v321, rfl, ho0, hb⟩; refine ⟨_, rfl, ?_⟩; have n0_ := Aside0.mk (Kd.R_elder' (zR HO319.out) (Kd.R_base ho0) hb); have n1_ := Aside0.mk (Kd.R_lower (Kd.R_new' ho0 (Kd.R_lt (zR HO319.out))) (zS HB.out)); have n2_ := Aside0.mk (below_step (zB HB.out) hb); clear HO319; clear HB; have HO319 := n0_; have HO322 := n1_; have HB := n2_; clear n0_ n1_ n2_; (try clear hb); (try clear hb2); (try clear hk); (try clear hi); (try clear ho0); obtain ⟨Ao15, co15, eo15⟩ := Kd.R_slice HO319.out; subst eo15; obtain ⟨Ao16, co16, eo16⟩ := Kd.R_slice HO322.out; subst eo16) | ((with_reducible refine gate_callee (f := 32) rfl ?_); refine goesL_ (some 23) rfl rfl Try.func32 (by kernel_rfl) rfl #[.slice Ao15 t317.length co15, .slice Ao16 t320.length co16] rfl (by (try simp only [za, zc, zn]); first | done | rfl) ?_; (with_reducible refine (spec_SharedOf.calls k _ _ t317 _ _ t320 t323 _ ?side1 ?side2 ?side3 ?side4 A7.out).mono ?_); (case side1 => repeat (first | exact (Kd.R_reads' HO319.out).2.2 | (with_reducible refine Kd.C_alloc ?_ _) | (with_reducible refine Kd.C_drewN ?_ _) | (with_reducible refine Kd.C_drew ?_))); (case side2 => exact (Kd.R_reads' HO319.out).2.1); (case side3 => repeat (first | exact (Kd.R_reads' HO322.out).2.2 | (with_reducible refine Kd.C_alloc ?_ _) | (with_reducible refine Kd.C_drewN ?_ _) | (with_reducible refine Kd.C_drew ?_))); (case side4 => exact (Kd.R_reads' HO322.out).2.1); rintro e w17 ⟨v324, rfl, ho0, hb⟩; refine ⟨_, rfl, ?_⟩; have n0_ := Aside0.mk (Kd.R_elder' (zR HO319.out) (Kd.R_base ho0) hb); have n1_ := Aside0.mk (Kd.R_elder' (zR HO322.out) (Kd.R_base ho0) hb); have n2_ := Aside0.mk (Kd.R_lower (Kd.R_new' (Kd.R_new' ho0 (Kd.R_lt (zR HO319.out))) (Kd.R_lt (zR HO322.out))) (zS HB.out)); have n3_ := Aside0.mk (below_step (zB HB.out) hb); clear HO319; clear HO322; clear HB; have HO319 := n0_; have HO322 := n1_; have HO325 := n2_; have HB := n3_; clear n0_ n1_ n2_ n3_; (try clear hb); (try clear hb2); (try clear hk); (try clear hi); (try clear ho0)) | ((with_reducible refine gate_callee (f := 27) rfl ?_); refine goesL_ (some 25) rfl rfl Try.func27 (by kernel_rfl) rfl #[.slice A0 l0.length c0] rfl (by (try simp only [za, zc, zn]); first | done | rfl) ?_; (with_reducible refine (laws_toIntS.calls k _ _ l0 t326 _ ?side1 ?side2 A8.out).mono ?_); (case side1 => exact zC (Kd.C_below HR0.out HB.out)); (case side2 => exact HC0.out); rintro e w18 ⟨v327, rfl, ho0, hb⟩; refine ⟨_, rfl, ?_⟩; have n0_ := Aside0.mk (Kd.R_elder' (zR HO319.out) (Kd.R_base ho0) hb); have n1_ := Aside0.mk (Kd.R_elder' (zR HO322.out) (Kd.R_base ho0) hb); have n2_ := Aside0.mk (Kd.R_elder' (zR HO325.out) (Kd.R_base ho0) hb); have n3_ := Aside0.mk (Kd.R_lower (Kd.R_new' (Kd.R_new' (Kd.R_new' ho0 (Kd.R_lt (zR HO319.out))) (Kd.R_lt (zR HO322.out))) (Kd.R_lt (zR HO325.out))) (zS HB.out)); have n4_ := Aside0.mk (below_step (zB HB.out) hb); clear HO319; clear HO322; clear HO325; clear HB; have HO319 := n0_; have HO322 := n1_; have HO325 := n2_; have HO328 := n3_; have HB := n4_; clear n0_ n1_ n2_ n3_ n4_; (try clear hb); (try clear hb2); (try clear hk); (try clear hi); (try clear ho0)) | ((with_reducible refine gate_callee (f := 27) rfl ?_); refine goesL_ (some 27) rfl rfl Try.func27 (by kernel_rfl) rfl #[.slice A1 l1.length c1] rfl (by (try simp only [za, zc, zn]); first | done | rfl) ?_; (with_reducible refine (laws_toIntS.calls k _ _ l1 t329 _ ?side1 ?side2 A9.out).mono ?_); (case side1 => exact zC (Kd.C_below HR1.out HB.out)); (case side2 => exact HC1.out); rintro e w19 ⟨v330, rfl, ho0, hb⟩; refine ⟨_, rfl, ?_⟩; have n0_ := Aside0.mk (Kd.R_elder' (zR HO319.out) (Kd.R_base ho0) hb); have n1_ := Aside0.mk (Kd.R_elder' (zR HO322.out) (Kd.R_base ho0) hb); have n2_ := Aside0.mk (Kd.R_elder' (zR HO325.out) (Kd.R_base ho0) hb); have n3_ := Aside0.mk (Kd.R_elder' (zR HO328.out) (Kd.R_base ho0) hb); have n4_ := Aside0.mk (Kd.R_lower (Kd.R_new' (Kd.R_new' (Kd.R_new' (Kd.R_new' ho0 (Kd.R_lt (zR HO319.out))) (Kd.R_lt (zR HO322.out))) (Kd.R_lt (zR HO325.out))) (Kd.R_lt (zR HO328.out))) (zS HB.out)); have n5_ := Aside0.mk (below_step (zB HB.out) hb); clear HO319; clear HO322; clear HO325; clear HO328; clear HB; have HO319 := n0_; have HO322 := n1_; have HO325 := n2_; have HO328 := n3_; have HO331 := n4_; have HB := n5_; clear n0_ n1_ n2_ n3_ n4_ n5_; (try clear hb); (try clear hb2); (try clear hk); (try clear hi); (try clear ho0); obtain ⟨Ao20, co20, eo20⟩ := Kd.R_slice HO328.out; subst eo20; obtain ⟨Ao21, co21, eo21⟩ := Kd.R_slice HO331.out; subst eo21) | ((with_reducible refine gate_callee (f := 33) rfl ?_); refine goesL_ (some 30) rfl rfl Try.func33 (by kernel_rfl) rfl #[.slice Ao20 t326.length co20, .slice Ao21 t329.length co21] rfl (by (try simp only [za, zc, zn]); first | done | rfl) ?_; (with_reducible refine (impl_SharedOf.calls k _ _ t326 _ _ t329 t332 _ ?side1 ?side2 ?side3 ?side4 A10.out).mono ?_); (case side1 => repeat (first | exact (Kd.R_reads' HO328.out).2.2 | (with_reducible refine Kd.C_alloc ?_ _) | (with_reducible refine Kd.C_drewN ?_ _) | (with_reducible refine Kd.C_drew ?_))); (case side2 => exact (Kd.R_reads' HO328.out).2.1); (case side3 => repeat (first | exact (Kd.R_reads' HO331.out).2.2 | (with_reducible refine Kd.C_alloc ?_ _) | (with_reducible refine Kd.C_drewN ?_ _) | (with_reducible refine Kd.C_drew ?_))); (case side4 => exact (Kd.R_reads' HO331.out).2.1); rintro e w22 ⟨v333, rfl, ho0, hb⟩; refine ⟨_, rfl, ?_⟩; have n0_ := Aside0.mk (Kd.R_elder' (zR HO319.out) (Kd.R_base ho0) hb); have n1_ := Aside0.mk (Kd.R_elder' (zR HO322.out) (Kd.R_base ho0) hb); have n2_ := Aside0.mk (Kd.R_elder' (zR HO325.out) (Kd.R_base ho0) hb); have n3_ := Aside0.mk (Kd.R_elder' (zR HO328.out) (Kd.R_base ho0) hb); have n4_ := Aside0.mk (Kd.R_elder' (zR HO331.out) (Kd.R_base ho0) hb); have n5_ := Aside0.mk (Kd.R_lower (Kd.R_new' (Kd.R_new' (Kd.R_new' (Kd.R_new' (Kd.R_new' ho0 (Kd.R_lt (zR HO319.out))) (Kd.R_lt (zR HO322.out))) (Kd.R_lt (zR HO325.out))) (Kd.R_lt (zR HO328.out))) (Kd.R_lt (zR HO331.out))) (zS HB.out)); have n6_ := Aside0.mk (below_step (zB HB.out) hb); clear HO319; clear HO322; clear HO325; clear HO328; clear HO331; clear HB; have HO319 := n0_; have HO322 := n1_; have HO325 := n2_; have HO328 := n3_; have HO331 := n4_; have HO334 := n5_; have HB := n6_; clear n0_ n1_ n2_ n3_ n4_ n5_ n6_; (try clear hb); (try clear hb2); (try clear hk); (try clear hi); (try clear ho0); obtain ⟨Ao23, co23, eo23⟩ := Kd.R_slice HO334.out; subst eo23; obtain ⟨Ao24, co24, eo24⟩ := Kd.R_slice HO325.out; subst eo24) | ((with_reducible refine gate_callee (f := 29) rfl ?_); refine goesL_ (some 33) rfl rfl Try.func29 (by kernel_rfl) rfl #[.slice Ao23 t332.length co23, .slice Ao24 t323.length co24] rfl (by (try simp only [za, zc, zn]); first | done | rfl) ?_; (with_reducible refine (laws_eqIntS.calls k _ _ t332 _ _ t323 t335 _ ?side1 ?side2 ?side3 ?side4 A11.out).mono ?_); (case side1 => repeat (first | exact (Kd.R_reads' HO334.out).2.2 | (with_reducible refine Kd.C_alloc ?_ _) | (with_reducible refine Kd.C_drewN ?_ _) | (with_reducible refine Kd.C_drew ?_))); (case side2 => exact (Kd.R_reads' HO334.out).2.1); (case side3 => repeat (first | exact (Kd.R_reads' HO325.out).2.2 | (with_reducible refine Kd.C_alloc ?_ _) | (with_reducible refine Kd.C_drewN ?_ _) | (with_reducible refine Kd.C_drew ?_))); (case side4 => exact (Kd.R_reads' HO325.out).2.1); rintro e w' ⟨rfl, ⟨nd, rfl⟩⟩; refine ⟨_, rfl, ?_⟩))
   (try simp only [Act.put, List.setIfInBounds_toArray, List.set_cons_zero, List.set_cons_succ])
   have H := HU12.out
   clear HU12
   by_cases c25 : t335 = true
   ·subst c25
    rw [zT] at H
    obtain ⟨t336, A26, H⟩ := zb H
    obtain ⟨t339, A27, H⟩ := zb H
    have HU28 := Aside0.mk H
    clear H
    go_upto_if 39 with (first | ((with_reducible refine gate_callee (f := 27) rfl ?_); refine goesL_ (some 37) rfl rfl Try.func27 (by kernel_rfl) rfl #[.slice A0 l0.length c0] rfl (by (try simp only [za, zc, zn]); first | done | rfl) ?_; (with_reducible refine (laws_toIntS.calls k _ _ l0 t336 _ ?side1 ?side2 A26.out).mono ?_); (case side1 => exact zC (Kd.C_below HR0.out HB.out)); (case side2 => exact HC0.out); rintro e w29 ⟨v337, rfl, ho0, hb⟩; refine ⟨_, rfl, ?_⟩; have n0_ := Aside0.mk (Kd.R_elder' (zR HO319.out) (Kd.R_base ho0) hb); have n1_ := Aside0.mk (Kd.R_elder' (zR HO322.out) (Kd.R_base ho0) hb); have n2_ := Aside0.mk (Kd.R_elder' (zR HO325.out) (Kd.R_base ho0) hb); have n3_ := Aside0.mk (Kd.R_elder' (zR HO328.out) (Kd.R_base ho0) hb); have n4_ := Aside0.mk (Kd.R_elder' (zR HO331.out) (Kd.R_base ho0) hb); have n5_ := Aside0.mk (Kd.R_elder' (zR HO334.out) (Kd.R_base ho0) hb); have n6_ := Aside0.mk (Kd.R_lower (Kd.R_new' (Kd.R_new' (Kd.R_new' (Kd.R_new' (Kd.R_new' (Kd.R_new' ho0 (Kd.R_lt (zR HO319.out))) (Kd.R_lt (zR HO322.out))) (Kd.R_lt (zR HO325.out))) (Kd.R_lt (zR HO328.out))) (Kd.R_lt (zR HO331.out))) (Kd.R_lt (zR HO334.out))) (zS HB.out)); have n7_ := Aside0.mk (below_step (zB HB.out) hb); clear HO319; clear HO322; clear HO325; clear HO328; clear HO331; clear HO334; clear HB; have HO319 := n0_; have HO322 := n1_; have HO325 := n2_; have HO328 := n3_; have HO331 := n4_; have HO334 := n5_; have HO338 := n6_; have HB := n7_; clear n0_ n1_ n2_ n3_ n4_ n5_ n6_ n7_; (try clear hb); (try clear hb2); (try clear hk); (try clear hi); (try clear ho0); obtain ⟨Ao30, co30, eo30⟩ := Kd.R_slice HO338.out; subst eo30) | ((with_reducible refine gate_callee (f := 29) rfl ?_); refine goesL_ (some 38) rfl rfl Try.func29 (by kernel_rfl) rfl #[.slice Ao20 t326.length co20, .slice Ao30 t336.length co30] rfl (by (try simp only [za, zc, zn]); first | done | rfl) ?_; (with_reducible refine (laws_eqIntS.calls k _ _ t326 _ _ t336 t339 _ ?side1 ?side2 ?side3 ?side4 A27.out).mono ?_); (case side1 => repeat (first | exact (Kd.R_reads' HO328.out).2.2 | (with_reducible refine Kd.C_alloc ?_ _) | (with_reducible refine Kd.C_drewN ?_ _) | (with_reducible refine Kd.C_drew ?_))); (case side2 => exact (Kd.R_reads' HO328.out).2.1); (case side3 => repeat (first | exact (Kd.R_reads' HO338.out).2.2 | (with_reducible refine Kd.C_alloc ?_ _) | (with_reducible refine Kd.C_drewN ?_ _) | (with_reducible refine Kd.C_drew ?_))); (case side4 => exact (Kd.R_reads' HO338.out).2.1); rintro e w' ⟨rfl, ⟨nd, rfl⟩⟩; refine ⟨_, rfl, ?_⟩))
    (try simp only [Act.put, List.setIfInBounds_toArray, List.set_cons_zero, List.set_cons_succ])
    have H := HU28.out
    clear HU28
    by_cases c31 : t339 = true
    ·subst c31
     rw [zT] at H
     obtain ⟨t340, A32, H⟩ := zb H
     obtain ⟨t343, A33, H⟩ := zb H
     have HU34 := Aside0.mk H
     clear H
     go_upto_if 44 with (first | ((with_reducible refine gate_callee (f := 27) rfl ?_); refine goesL_ (some 42) rfl rfl Try.func27 (by kernel_rfl) rfl #[.slice A1 l1.length c1] rfl (by (try simp only [za, zc, zn]); first | done | rfl) ?_; (with_reducible refine (laws_toIntS.calls k _ _ l1 t340 _ ?side1 ?side2 A32.out).mono ?_); (case side1 => exact zC (Kd.C_below HR1.out HB.out)); (case side2 => exact HC1.out); rintro e w35 ⟨v341, rfl, ho0, hb⟩; refine ⟨_, rfl, ?_⟩; have n0_ := Aside0.mk (Kd.R_elder' (zR HO319.out) (Kd.R_base ho0) hb); have n1_ := Aside0.mk (Kd.R_elder' (zR HO322.out) (Kd.R_base ho0) hb); have n2_ := Aside0.mk (Kd.R_elder' (zR HO325.out) (Kd.R_base ho0) hb); have n3_ := Aside0.mk (Kd.R_elder' (zR HO328.out) (Kd.R_base ho0) hb); have n4_ := Aside0.mk (Kd.R_elder' (zR HO331.out) (Kd.R_base ho0) hb); have n5_ := Aside0.mk (Kd.R_elder' (zR HO334.out) (Kd.R_base ho0) hb); have n6_ := Aside0.mk (Kd.R_elder' (zR HO338.out) (Kd.R_base ho0) hb); have n7_ := Aside0.mk (Kd.R_lower (Kd.R_new' (Kd.R_new' (Kd.R_new' (Kd.R_new' (Kd.R_new' (Kd.R_new' (Kd.R_new' ho0 (Kd.R_lt (zR HO319.out))) (Kd.R_lt (zR HO322.out))) (Kd.R_lt (zR HO325.out))) (Kd.R_lt (zR HO328.out))) (Kd.R_lt (zR HO331.out))) (Kd.R_lt (zR HO334.out))) (Kd.R_lt (zR HO338.out))) (zS HB.out)); have n8_ := Aside0.mk (below_step (zB HB.out) hb); clear HO319; clear HO322; clear HO325; clear HO328; clear HO331; clear HO334; clear HO338; clear HB; have HO319 := n0_; have HO322 := n1_; have HO325 := n2_; have HO328 := n3_; have HO331 := n4_; have HO334 := n5_; have HO338 := n6_; have HO342 := n7_; have HB := n8_; clear n0_ n1_ n2_ n3_ n4_ n5_ n6_ n7_ n8_; (try clear hb); (try clear hb2); (try clear hk); (try clear hi); (try clear ho0); obtain ⟨Ao36, co36, eo36⟩ := Kd.R_slice HO342.out; subst eo36) | ((with_reducible refine gate_callee (f := 29) rfl ?_); refine goesL_ (some 43) rfl rfl Try.func29 (by kernel_rfl) rfl #[.slice Ao21 t329.length co21, .slice Ao36 t340.length co36] rfl (by (try simp only [za, zc, zn]); first | done | rfl) ?_; (with_reducible refine (laws_eqIntS.calls k _ _ t329 _ _ t340 t343 _ ?side1 ?side2 ?side3 ?side4 A33.out).mono ?_); (case side1 => repeat (first | exact (Kd.R_reads' HO331.out).2.2 | (with_reducible refine Kd.C_alloc ?_ _) | (with_reducible refine Kd.C_drewN ?_ _) | (with_reducible refine Kd.C_drew ?_))); (case side2 => exact (Kd.R_reads' HO331.out).2.1); (case side3 => repeat (first | exact (Kd.R_reads' HO342.out).2.2 | (with_reducible refine Kd.C_alloc ?_ _) | (with_reducible refine Kd.C_drewN ?_ _) | (with_reducible refine Kd.C_drew ?_))); (case side4 => exact (Kd.R_reads' HO342.out).2.1); rintro e w' ⟨rfl, ⟨nd, rfl⟩⟩; refine ⟨_, rfl, ?_⟩))
     (try simp only [Act.put, List.setIfInBounds_toArray, List.set_cons_zero, List.set_cons_succ])
     have H := HU34.out
     clear HU34
     by_cases c37 : t343 = true
     ·subst c37
      rw [zT] at H
      obtain ⟨⟨t344, t345⟩, A38, H⟩ := zb H
      (try dsimp only at H)
      obtain ⟨⟨t346, t347⟩, A39, H⟩ := zb H
      (try dsimp only at H)
      have HC40 := Aside0.mk H
      clear H
      go_upto_region 18 with (first | ((with_reducible refine gate_callee (f := 30) rfl ?_); refine goesL_ (some 47) rfl rfl Try.func30 (by kernel_rfl) rfl #[.slice Ao20 t326.length co20, .int .i64 1] rfl (by (try simp only [za, zc, zn]); first | done | rfl) ?_; (with_reducible refine (laws_markIntS.calls k (fun k_ => some k_ = (.slice Ao20 t326.length co20 : Value).ownBlock) (.slice Ao20 t326.length co20) t326 1 t344 t345 w _ ?side1 ?side2 A38.out).mono ?_); (case side1 => repeat (first | (with_reducible first | exact HB.out | apply below_alloc | apply pw_below_drewN | apply below_drew1) | exact HB.out)); (case side2 => exact Kd.R_tight rfl HO328.out); rintro e w41 ⟨rfl, hy0, hb, hkp⟩; refine ⟨_, rfl, ?_⟩; have n0_ := Aside0.mk (Kd.R_mono (ok' := fun k_ => some k_ ≠ (.slice Ao16 t320.length co16 : Value).ownBlock ∧ some k_ ≠ (.slice Ao24 t323.length co24 : Value).ownBlock ∧ some k_ ≠ (.slice Ao20 t326.length co20 : Value).ownBlock ∧ some k_ ≠ (.slice Ao21 t329.length co21 : Value).ownBlock ∧ some k_ ≠ (.slice Ao23 t332.length co23 : Value).ownBlock ∧ some k_ ≠ (.slice Ao30 t336.length co30 : Value).ownBlock ∧ some k_ ≠ (.slice Ao36 t340.length co36 : Value).ownBlock) (Kd.R_keptB (HO319.out) hkp (fun k_ hk_ hs_ => by first | exact (hk_.1.1.1.1.2) hs_ | (revert hk_ hs_; simp +contextual))) (fun k_ hk_ => by first | exact ⟨hk_.1.1.1.1.1.1.1.2, hk_.1.1.1.1.1.1.2, hk_.1.1.1.1.1.2, hk_.1.1.1.1.2, hk_.1.1.1.2, hk_.1.1.2, hk_.1.2⟩ | (revert hk_; simp +contextual))); have n1_ := Aside0.mk (Kd.R_mono (ok' := fun k_ => some k_ ≠ (.slice Ao15 t317.length co15 : Value).ownBlock ∧ some k_ ≠ (.slice Ao24 t323.length co24 : Value).ownBlock ∧ some k_ ≠ (.slice Ao20 t326.length co20 : Value).ownBlock ∧ some k_ ≠ (.slice Ao21 t329.length co21 : Value).ownBlock ∧ some k_ ≠ (.slice Ao23 t332.length co23 : Value).ownBlock ∧ some k_ ≠ (.slice Ao30 t336.length co30 : Value).ownBlock ∧ some k_ ≠ (.slice Ao36 t340.length co36 : Value).ownBlock) (Kd.R_keptB (HO322.out) hkp (fun k_ hk_ hs_ => by first | exact (hk_.1.1.1.1.2) hs_ | (revert hk_ hs_; simp +contextual))) (fun k_ hk_ => by first | exact ⟨hk_.1.1.1.1.1.1.1.2, hk_.1.1.1.1.1.1.2, hk_.1.1.1.1.1.2, hk_.1.1.1.1.2, hk_.1.1.1.2, hk_.1.1.2, hk_.1.2⟩ | (revert hk_; simp +contextual))); have n2_ := Aside0.mk (Kd.R_mono (ok' := fun k_ => some k_ ≠ (.slice Ao15 t317.length co15 : Value).ownBlock ∧ some k_ ≠ (.slice Ao16 t320.length co16 : Value).ownBlock ∧ some k_ ≠ (.slice Ao20 t326.length co20 : Value).ownBlock ∧ some k_ ≠ (.slice Ao21 t329.length co21 : Value).ownBlock ∧ some k_ ≠ (.slice Ao23 t332.length co23 : Value).ownBlock ∧ some k_ ≠ (.slice Ao30 t336.length co30 : Value).ownBlock ∧ some k_ ≠ (.slice Ao36 t340.length co36 : Value).ownBlock) (Kd.R_keptB (HO325.out) hkp (fun k_ hk_ hs_ => by first | exact (hk_.1.1.1.1.2) hs_ | (revert hk_ hs_; simp +contextual))) (fun k_ hk_ => by first | exact ⟨hk_.1.1.1.1.1.1.1.2, hk_.1.1.1.1.1.1.2, hk_.1.1.1.1.1.2, hk_.1.1.1.1.2, hk_.1.1.1.2, hk_.1.1.2, hk_.1.2⟩ | (revert hk_; simp +contextual))); have n3_ := Aside0.mk (Kd.R_reok rfl hy0 (fun k_ e_ => HO328.out.1 k_ e_)); have n4_ := Aside0.mk (Kd.R_mono (ok' := fun k_ => some k_ ≠ (.slice Ao15 t317.length co15 : Value).ownBlock ∧ some k_ ≠ (.slice Ao16 t320.length co16 : Value).ownBlock ∧ some k_ ≠ (.slice Ao24 t323.length co24 : Value).ownBlock ∧ some k_ ≠ (.slice Ao20 t326.length co20 : Value).ownBlock ∧ some k_ ≠ (.slice Ao23 t332.length co23 : Value).ownBlock ∧ some k_ ≠ (.slice Ao30 t336.length co30 : Value).ownBlock ∧ some k_ ≠ (.slice Ao36 t340.length co36 : Value).ownBlock) (Kd.R_keptB (HO331.out) hkp (fun k_ hk_ hs_ => by first | exact (hk_.1.1.1.2) hs_ | (revert hk_ hs_; simp +contextual))) (fun k_ hk_ => by first | exact ⟨hk_.1.1.1.1.1.1.1.2, hk_.1.1.1.1.1.1.2, hk_.1.1.1.1.1.2, hk_.1.1.1.1.2, hk_.1.1.1.2, hk_.1.1.2, hk_.1.2⟩ | (revert hk_; simp +contextual))); have n5_ := Aside0.mk (Kd.R_mono (ok' := fun k_ => some k_ ≠ (.slice Ao15 t317.length co15 : Value).ownBlock ∧ some k_ ≠ (.slice Ao16 t320.length co16 : Value).ownBlock ∧ some k_ ≠ (.slice Ao24 t323.length co24 : Value).ownBlock ∧ some k_ ≠ (.slice Ao20 t326.length co20 : Value).ownBlock ∧ some k_ ≠ (.slice Ao21 t329.length co21 : Value).ownBlock ∧ some k_ ≠ (.slice Ao30 t336.length co30 : Value).ownBlock ∧ some k_ ≠ (.slice Ao36 t340.length co36 : Value).ownBlock) (Kd.R_keptB (HO334.out) hkp (fun k_ hk_ hs_ => by first | exact (hk_.1.1.1.2) hs_ | (revert hk_ hs_; simp +contextual))) (fun k_ hk_ => by first | exact ⟨hk_.1.1.1.1.1.1.1.2, hk_.1.1.1.1.1.1.2, hk_.1.1.1.1.1.2, hk_.1.1.1.1.2, hk_.1.1.1.2, hk_.1.1.2, hk_.1.2⟩ | (revert hk_; simp +contextual))); have n6_ := Aside0.mk (Kd.R_mono (ok' := fun k_ => some k_ ≠ (.slice Ao15 t317.length co15 : Value).ownBlock ∧ some k_ ≠ (.slice Ao16 t320.length co16 : Value).ownBlock ∧ some k_ ≠ (.slice Ao24 t323.length co24 : Value).ownBlock ∧ some k_ ≠ (.slice Ao20 t326.length co20 : Value).ownBlock ∧ some k_ ≠ (.slice Ao21 t329.length co21 : Value).ownBlock ∧ some k_ ≠ (.slice Ao23 t332.length co23 : Value).ownBlock ∧ some k_ ≠ (.slice Ao36 t340.length co36 : Value).ownBlock) (Kd.R_keptB (HO338.out) hkp (fun k_ hk_ hs_ => by first | exact (hk_.1.1.1.2) hs_ | (revert hk_ hs_; simp +contextual))) (fun k_ hk_ => by first | exact ⟨hk_.1.1.1.1.1.1.1.2, hk_.1.1.1.1.1.1.2, hk_.1.1.1.1.1.2, hk_.1.1.1.1.2, hk_.1.1.1.2, hk_.1.1.2, hk_.1.2⟩ | (revert hk_; simp +contextual))); have n7_ := Aside0.mk (Kd.R_mono (ok' := fun k_ => some k_ ≠ (.slice Ao15 t317.length co15 : Value).ownBlock ∧ some k_ ≠ (.slice Ao16 t320.length co16 : Value).ownBlock ∧ some k_ ≠ (.slice Ao24 t323.length co24 : Value).ownBlock ∧ some k_ ≠ (.slice Ao20 t326.length co20 : Value).ownBlock ∧ some k_ ≠ (.slice Ao21 t329.length co21 : Value).ownBlock ∧ some k_ ≠ (.slice Ao23 t332.length co23 : Value).ownBlock ∧ some k_ ≠ (.slice Ao30 t336.length co30 : Value).ownBlock) (Kd.R_keptB (HO342.out) hkp (fun k_ hk_ hs_ => by first | exact (hk_.1.1.1.2) hs_ | (revert hk_ hs_; simp +contextual))) (fun k_ hk_ => by first | exact ⟨hk_.1.1.1.1.1.1.1.2, hk_.1.1.1.1.1.1.2, hk_.1.1.1.1.1.2, hk_.1.1.1.1.2, hk_.1.1.1.2, hk_.1.1.2, hk_.1.2⟩ | (revert hk_; simp +contextual))); have n8_ := Aside0.mk (hb); clear HO319; clear HO322; clear HO325; clear HO328; clear HO331; clear HO334; clear HO338; clear HO342; clear HB; have HO319 := n0_; have HO322 := n1_; have HO325 := n2_; have HO328 := n3_; have HO331 := n4_; have HO334 := n5_; have HO338 := n6_; have HO342 := n7_; have HB := n8_; clear n0_ n1_ n2_ n3_ n4_ n5_ n6_ n7_ n8_; (try clear hb); (try clear hkp); (try clear hy0)) | ((with_reducible refine gate_callee (f := 30) rfl ?_); refine goesL_ (some 50) rfl rfl Try.func30 (by kernel_rfl) rfl #[.slice Ao21 t329.length co21, .int .i64 t344] rfl (by (try simp only [za, zc, zn]); first | done | rfl) ?_; (with_reducible refine (laws_markIntS.calls k (fun k_ => some k_ = (.slice Ao21 t329.length co21 : Value).ownBlock) (.slice Ao21 t329.length co21) t329 t344 t346 t347 w _ ?side1 ?side2 A39.out).mono ?_); (case side1 => repeat (first | (with_reducible first | exact HB.out | apply below_alloc | apply pw_below_drewN | apply below_drew1) | exact HB.out)); (case side2 => exact Kd.R_tight rfl HO331.out); rintro e w42 ⟨rfl, hy0, hb, hkp⟩; refine ⟨_, rfl, ?_⟩; have n0_ := Aside0.mk (Kd.R_mono (ok' := fun k_ => some k_ ≠ (.slice Ao16 t320.length co16 : Value).ownBlock ∧ some k_ ≠ (.slice Ao24 t323.length co24 : Value).ownBlock ∧ some k_ ≠ (.slice Ao20 t326.length co20 : Value).ownBlock ∧ some k_ ≠ (.slice Ao21 t329.length co21 : Value).ownBlock ∧ some k_ ≠ (.slice Ao23 t332.length co23 : Value).ownBlock ∧ some k_ ≠ (.slice Ao30 t336.length co30 : Value).ownBlock ∧ some k_ ≠ (.slice Ao36 t340.length co36 : Value).ownBlock) (Kd.R_keptB (HO319.out) hkp (fun k_ hk_ hs_ => by first | exact (hk_.2.2.2.1) hs_ | (revert hk_ hs_; simp +contextual))) (fun k_ hk_ => by first | exact ⟨hk_.1.1, hk_.1.2.1, hk_.1.2.2.1, hk_.1.2.2.2.1, hk_.1.2.2.2.2.1, hk_.1.2.2.2.2.2.1, hk_.1.2.2.2.2.2.2⟩ | (revert hk_; simp +contextual))); have n1_ := Aside0.mk (Kd.R_mono (ok' := fun k_ => some k_ ≠ (.slice Ao15 t317.length co15 : Value).ownBlock ∧ some k_ ≠ (.slice Ao24 t323.length co24 : Value).ownBlock ∧ some k_ ≠ (.slice Ao20 t326.length co20 : Value).ownBlock ∧ some k_ ≠ (.slice Ao21 t329.length co21 : Value).ownBlock ∧ some k_ ≠ (.slice Ao23 t332.length co23 : Value).ownBlock ∧ some k_ ≠ (.slice Ao30 t336.length co30 : Value).ownBlock ∧ some k_ ≠ (.slice Ao36 t340.length co36 : Value).ownBlock) (Kd.R_keptB (HO322.out) hkp (fun k_ hk_ hs_ => by first | exact (hk_.2.2.2.1) hs_ | (revert hk_ hs_; simp +contextual))) (fun k_ hk_ => by first | exact ⟨hk_.1.1, hk_.1.2.1, hk_.1.2.2.1, hk_.1.2.2.2.1, hk_.1.2.2.2.2.1, hk_.1.2.2.2.2.2.1, hk_.1.2.2.2.2.2.2⟩ | (revert hk_; simp +contextual))); have n2_ := Aside0.mk (Kd.R_mono (ok' := fun k_ => some k_ ≠ (.slice Ao15 t317.length co15 : Value).ownBlock ∧ some k_ ≠ (.slice Ao16 t320.length co16 : Value).ownBlock ∧ some k_ ≠ (.slice Ao20 t326.length co20 : Value).ownBlock ∧ some k_ ≠ (.slice Ao21 t329.length co21 : Value).ownBlock ∧ some k_ ≠ (.slice Ao23 t332.length co23 : Value).ownBlock ∧ some k_ ≠ (.slice Ao30 t336.length co30 : Value).ownBlock ∧ some k_ ≠ (.slice Ao36 t340.length co36 : Value).ownBlock) (Kd.R_keptB (HO325.out) hkp (fun k_ hk_ hs_ => by first | exact (hk_.2.2.2.1) hs_ | (revert hk_ hs_; simp +contextual))) (fun k_ hk_ => by first | exact ⟨hk_.1.1, hk_.1.2.1, hk_.1.2.2.1, hk_.1.2.2.2.1, hk_.1.2.2.2.2.1, hk_.1.2.2.2.2.2.1, hk_.1.2.2.2.2.2.2⟩ | (revert hk_; simp +contextual))); have n3_ := Aside0.mk (Kd.R_mono (ok' := fun k_ => some k_ ≠ (.slice Ao15 t317.length co15 : Value).ownBlock ∧ some k_ ≠ (.slice Ao16 t320.length co16 : Value).ownBlock ∧ some k_ ≠ (.slice Ao24 t323.length co24 : Value).ownBlock ∧ some k_ ≠ (.slice Ao21 t329.length co21 : Value).ownBlock ∧ some k_ ≠ (.slice Ao23 t332.length co23 : Value).ownBlock ∧ some k_ ≠ (.slice Ao30 t336.length co30 : Value).ownBlock ∧ some k_ ≠ (.slice Ao36 t340.length co36 : Value).ownBlock) (Kd.R_keptB (HO328.out) hkp (fun k_ hk_ hs_ => by first | exact (hk_.1.1.1.2) hs_ | (revert hk_ hs_; simp +contextual))) (fun k_ hk_ => by first | exact ⟨hk_.1.1.1.1.1.1.1.2, hk_.1.1.1.1.1.1.2, hk_.1.1.1.1.1.2, hk_.1.1.1.1.2, hk_.1.1.1.2, hk_.1.1.2, hk_.1.2⟩ | (revert hk_; simp +contextual))); have n4_ := Aside0.mk (Kd.R_reok rfl hy0 (fun k_ e_ => HO331.out.1 k_ e_)); have n5_ := Aside0.mk (Kd.R_mono (ok' := fun k_ => some k_ ≠ (.slice Ao15 t317.length co15 : Value).ownBlock ∧ some k_ ≠ (.slice Ao16 t320.length co16 : Value).ownBlock ∧ some k_ ≠ (.slice Ao24 t323.length co24 : Value).ownBlock ∧ some k_ ≠ (.slice Ao20 t326.length co20 : Value).ownBlock ∧ some k_ ≠ (.slice Ao21 t329.length co21 : Value).ownBlock ∧ some k_ ≠ (.slice Ao30 t336.length co30 : Value).ownBlock ∧ some k_ ≠ (.slice Ao36 t340.length co36 : Value).ownBlock) (Kd.R_keptB (HO334.out) hkp (fun k_ hk_ hs_ => by first | exact (hk_.2.2.2.2.1) hs_ | (revert hk_ hs_; simp +contextual))) (fun k_ hk_ => by first | exact ⟨hk_.1.1, hk_.1.2.1, hk_.1.2.2.1, hk_.1.2.2.2.1, hk_.1.2.2.2.2.1, hk_.1.2.2.2.2.2.1, hk_.1.2.2.2.2.2.2⟩ | (revert hk_; simp +contextual))); have n6_ := Aside0.mk (Kd.R_mono (ok' := fun k_ => some k_ ≠ (.slice Ao15 t317.length co15 : Value).ownBlock ∧ some k_ ≠ (.slice Ao16 t320.length co16 : Value).ownBlock ∧ some k_ ≠ (.slice Ao24 t323.length co24 : Value).ownBlock ∧ some k_ ≠ (.slice Ao20 t326.length co20 : Value).ownBlock ∧ some k_ ≠ (.slice Ao21 t329.length co21 : Value).ownBlock ∧ some k_ ≠ (.slice Ao23 t332.length co23 : Value).ownBlock ∧ some k_ ≠ (.slice Ao36 t340.length co36 : Value).ownBlock) (Kd.R_keptB (HO338.out) hkp (fun k_ hk_ hs_ => by first | exact (hk_.2.2.2.2.1) hs_ | (revert hk_ hs_; simp +contextual))) (fun k_ hk_ => by first | exact ⟨hk_.1.1, hk_.1.2.1, hk_.1.2.2.1, hk_.1.2.2.2.1, hk_.1.2.2.2.2.1, hk_.1.2.2.2.2.2.1, hk_.1.2.2.2.2.2.2⟩ | (revert hk_; simp +contextual))); have n7_ := Aside0.mk (Kd.R_mono (ok' := fun k_ => some k_ ≠ (.slice Ao15 t317.length co15 : Value).ownBlock ∧ some k_ ≠ (.slice Ao16 t320.length co16 : Value).ownBlock ∧ some k_ ≠ (.slice Ao24 t323.length co24 : Value).ownBlock ∧ some k_ ≠ (.slice Ao20 t326.length co20 : Value).ownBlock ∧ some k_ ≠ (.slice Ao21 t329.length co21 : Value).ownBlock ∧ some k_ ≠ (.slice Ao23 t332.length co23 : Value).ownBlock ∧ some k_ ≠ (.slice Ao30 t336.length co30 : Value).ownBlock) (Kd.R_keptB (HO342.out) hkp (fun k_ hk_ hs_ => by first | exact (hk_.2.2.2.2.1) hs_ | (revert hk_ hs_; simp +contextual))) (fun k_ hk_ => by first | exact ⟨hk_.1.1, hk_.1.2.1, hk_.1.2.2.1, hk_.1.2.2.2.1, hk_.1.2.2.2.2.1, hk_.1.2.2.2.2.2.1, hk_.1.2.2.2.2.2.2⟩ | (revert hk_; simp +contextual))); have n8_ := Aside0.mk (hb); clear HO319; clear HO322; clear HO325; clear HO328; clear HO331; clear HO334; clear HO338; clear HO342; clear HB; have HO319 := n0_; have HO322 := n1_; have HO325 := n2_; have HO328 := n3_; have HO331 := n4_; have HO334 := n5_; have HO338 := n6_; have HO342 := n7_; have HB := n8_; clear n0_ n1_ n2_ n3_ n4_ n5_ n6_ n7_ n8_; (try clear hb); (try clear hkp); (try clear hy0)))
      (try simp only [Act.put, List.setIfInBounds_toArray, List.set_cons_zero, List.set_cons_succ])
      go_cut [58] (fun v58 wc => ∃ (kq : Nat) (x58_39 : Bool), v58 = .bool x58_39 ∧ Aside0 (laws_FnExactSharedOf.j0 kq l0 l1 t323 t332 x58_39 = some r) ∧ Aside0 (kq ≤ k) ∧ Aside0 (Kd.R (Kd.int .i64) 3 wc w.heap.size (fun k_ => some k_ ≠ ((.slice Ao23 t332.length co23) : Value).ownBlock) (.slice Ao24 t323.length co24) t323) ∧ Aside0 (Kd.R (Kd.int .i64) 3 wc w.heap.size (fun k_ => some k_ ≠ ((.slice Ao24 t323.length co24) : Value).ownBlock) (.slice Ao23 t332.length co23) t332) ∧ Aside0 (Below w.heap.size w wc))
      case first =>
       have H := HC40.out
       clear HC40
       by_cases c43 : t346 < 0
       ·rw [if_pos c43] at H
        have c43b0 : decide (t346 < 0) = true := decide_eq_true c43
        clear c43
        (first | rw [c43b0] | rw [c43b1] | (simp only [i64_w, i32_w]; rw [c43b0]) | skip)
        have H' := Aside0.mk H
        clear H
        go_wp2
        go_meet
        case rel => exact ⟨_, (true), (by first | rfl | (simp; done) | (simp [*]; done)), H', ⟨by first | omega | exact Nat.le_refl _⟩, ⟨zR (Kd.R_mono HO325.out (fun _ hk => hk.2.2.2.2.1))⟩, ⟨zR (Kd.R_mono HO334.out (fun _ hk => hk.2.2.1))⟩, ⟨zB HB.out⟩⟩
       ·rw [if_neg c43] at H
        have c43b0 : decide (t346 < 0) = false := decide_eq_false c43
        clear c43
        (first | rw [c43b0] | rw [c43b1] | (simp only [i64_w, i32_w]; rw [c43b0]) | skip)
        obtain ⟨t348, A44, H⟩ := zb H
        have H' := Aside0.mk H
        clear H
        go_wp2_with (first | (go_at_call 29; (with_reducible refine (laws_eqIntS.calls k _ _ t332 _ _ t323 t348 _ ?side1 ?side2 ?side3 ?side4 A44.out).mono ?_); (case side1 => repeat (first | exact (Kd.R_reads' HO334.out).2.2 | (with_reducible refine Kd.C_alloc ?_ _) | (with_reducible refine Kd.C_drewN ?_ _) | (with_reducible refine Kd.C_drew ?_))); (case side2 => exact (Kd.R_reads' HO334.out).2.1); (case side3 => repeat (first | exact (Kd.R_reads' HO325.out).2.2 | (with_reducible refine Kd.C_alloc ?_ _) | (with_reducible refine Kd.C_drewN ?_ _) | (with_reducible refine Kd.C_drew ?_))); (case side4 => exact (Kd.R_reads' HO325.out).2.1); rintro e w' ⟨rfl, ⟨nd, rfl⟩⟩))
        go_meet
        case rel => exact ⟨_, (!t348), (by first | rfl | (simp; done) | (simp [*]; done)), H', ⟨by first | omega | exact Nat.le_refl _⟩, ⟨zR (Kd.R_mono HO325.out (fun _ hk => hk.2.2.2.2.1))⟩, ⟨zR (Kd.R_mono HO334.out (fun _ hk => hk.2.2.1))⟩, ⟨zB HB.out⟩⟩
      case rest =>
       clear HC40
       try clear c1
       try clear c2
       try clear p2
       try clear c3
       try clear c3b0
       try clear c3b1
       try clear c4
       try clear c4b0
       try clear c4b1
       try clear c6
       try clear c25
       try clear c27
       try clear c29
       try clear c30
       try clear c31
       try clear c32
       try clear c33
       try clear c37
       try clear c43
       try clear c43b0
       obtain ⟨kq, x58_39, rfl, HA, HJ39, HO_5, HO_8, HB⟩ := hcut
       cases kq with
       | zero => exact absurd HA.out (by simp [laws_FnExactSharedOf.j0])
       | succ kj39 =>
        have H := HA.out
        clear HA
        simp only [laws_FnExactSharedOf.j0] at H
        by_cases c45 : x58_39 = true
        ·subst c45
         rw [zT] at H
         obtain rfl := Option.some.inj H
         go_wp2
         go_ret
         exact ⟨by first | rfl | (simp [errW_none, errW_some] <;> rfl) | (simp [*, errW_none, errW_some] <;> rfl), zB HB.out⟩
        ·replace c45 := Bool.eq_false_iff.mpr c45
         subst c45
         rw [zF] at H
         obtain ⟨⟨t349, t350⟩, A46, H⟩ := zb H
         (try dsimp only at H)
         obtain ⟨t351, A47, H⟩ := zb H
         have HU48 := Aside0.mk H
         clear H
         go_upto_if 66 with (first | ((with_reducible refine gate_callee (f := 30) rfl ?_); refine goesL_ (some 61) rfl rfl Try.func30 (by kernel_rfl) rfl #[.slice Ao23 t332.length co23, .int .i64 1] rfl (by (try simp only [za, zc, zn]); first | done | rfl) ?_; (with_reducible refine (laws_markIntS.calls kj39 (fun k_ => some k_ = (.slice Ao23 t332.length co23 : Value).ownBlock) (.slice Ao23 t332.length co23) t332 1 t349 t350 w _ ?side1 ?side2 A46.out).mono ?_); (case side1 => repeat (first | (with_reducible first | exact HB.out | apply below_alloc | apply pw_below_drewN | apply below_drew1) | exact HB.out)); (case side2 => exact Kd.R_tight rfl HO_8.out); rintro e w49 ⟨rfl, hy0, hb, hkp⟩; refine ⟨_, rfl, ?_⟩; have n0_ := Aside0.mk (Kd.R_mono (ok' := fun k_ => some k_ ≠ (.slice Ao23 t332.length co23 : Value).ownBlock) (Kd.R_keptB (HO_5.out) hkp (fun k_ hk_ hs_ => by first | exact (hk_) hs_ | (revert hk_ hs_; simp +contextual))) (fun k_ hk_ => hk_.1)); have n1_ := Aside0.mk (Kd.R_reok rfl hy0 (fun k_ e_ => HO_8.out.1 k_ e_)); have n2_ := Aside0.mk (hb); clear HO_5; clear HO_8; clear HB; have HO_5 := n0_; have HO_8 := n1_; have HB := n2_; clear n0_ n1_ n2_; (try clear hb); (try clear hkp); (try clear hy0)) | ((with_reducible refine gate_callee (f := 31) rfl ?_); refine goesL_ (some 64) rfl rfl Try.func31 (by kernel_rfl) rfl #[.slice Ao23 t350.length co23, .int .i64 1] rfl (by (try simp only [List.map_toArray, List.map_cons, List.map_nil]); first | done | (rw [show t350.length = t332.length from (Kd.R_reads' HO_8.out).1.symm] <;> rfl) | rfl | (simp only [List.length_drop, List.length_take]; rfl)) ?_; (with_reducible refine (laws_heldIntS.calls kj39 _ _ t350 1 t351 _ ?side1 ?side2 A47.out).mono ?_); (case side1 => repeat (first | exact (Kd.R_reads' HO_8.out).2.2 | (with_reducible refine Kd.C_alloc ?_ _) | (with_reducible refine Kd.C_drewN ?_ _) | (with_reducible refine Kd.C_drew ?_))); (case side2 => rw [show t350.length = t332.length from (Kd.R_reads' HO_8.out).1.symm]; exact (Kd.R_reads' HO_8.out).2.1); rintro e w' ⟨rfl, ⟨nd, rfl⟩⟩; refine ⟨_, rfl, ?_⟩))
         (try simp only [Act.put, List.setIfInBounds_toArray, List.set_cons_zero, List.set_cons_succ])
         have H := HU48.out
         clear HU48
         by_cases c50 : t351 < 0
         ·rw [if_pos c50] at H
          have c50b0 : decide (t351 < 0) = true := decide_eq_true c50
          clear c50
          (first | rw [c50b0] | rw [c50b1] | (simp only [i64_w, i32_w]; rw [c50b0]) | skip)
          obtain rfl := Option.some.inj H
          go_wp2
          go_ret
          exact ⟨by first | rfl | (simp [errW_none, errW_some] <;> rfl) | (simp [*, errW_none, errW_some] <;> rfl), zB HB.out⟩
         ·rw [if_neg c50] at H
          have c50b0 : decide (t351 < 0) = false := decide_eq_false c50
          clear c50
          (first | rw [c50b0] | rw [c50b1] | (simp only [i64_w, i32_w]; rw [c50b0]) | skip)
          by_cases c51 : t351 = t349
          ·rw [if_pos c51] at H
           have c51b0 : (t351 == t349) = true := beq_iff_eq.mpr c51
           have c51b1 : (t351 != t349) = false := bne_eq_false_iff_eq.mpr c51
           clear c51
           obtain ⟨t352, A52, H⟩ := zb H
           obtain ⟨t355, A53, H⟩ := zb H
           obtain ⟨t358, A54, H⟩ := zb H
           obtain ⟨t361, A55, H⟩ := zb H
           have HU56 := Aside0.mk H
           clear H
           go_upto_if 78 with (first | ((with_reducible refine gate_callee (f := 27) rfl ?_); refine goesL_ (some 71) rfl rfl Try.func27 (by kernel_rfl) rfl #[.slice A0 l0.length c0] rfl (by (try simp only [za, zc, zn]); first | done | rfl) ?_; (with_reducible refine (laws_toIntS.calls kj39 _ _ l0 t352 _ ?side1 ?side2 A52.out).mono ?_); (case side1 => exact zC (Kd.C_below HR0.out HB.out)); (case side2 => exact HC0.out); rintro e w57 ⟨v353, rfl, ho0, hb⟩; refine ⟨_, rfl, ?_⟩; have n0_ := Aside0.mk (Kd.R_elder' (zR HO_5.out) (Kd.R_base ho0) hb); have n1_ := Aside0.mk (Kd.R_elder' (zR HO_8.out) (Kd.R_base ho0) hb); have n2_ := Aside0.mk (Kd.R_lower (Kd.R_new' (Kd.R_new' ho0 (Kd.R_lt (zR HO_5.out))) (Kd.R_lt (zR HO_8.out))) (zS HB.out)); have n3_ := Aside0.mk (below_step (zB HB.out) hb); clear HO_5; clear HO_8; clear HB; have HO_5 := n0_; have HO_8 := n1_; have HO354 := n2_; have HB := n3_; clear n0_ n1_ n2_ n3_; (try clear hb); (try clear hb2); (try clear hk); (try clear hi); (try clear ho0)) | ((with_reducible refine gate_callee (f := 27) rfl ?_); refine goesL_ (some 73) rfl rfl Try.func27 (by kernel_rfl) rfl #[.slice A1 l1.length c1] rfl (by (try simp only [za, zc, zn]); first | done | rfl) ?_; (with_reducible refine (laws_toIntS.calls kj39 _ _ l1 t355 _ ?side1 ?side2 A53.out).mono ?_); (case side1 => exact zC (Kd.C_below HR1.out HB.out)); (case side2 => exact HC1.out); rintro e w58 ⟨v356, rfl, ho0, hb⟩; refine ⟨_, rfl, ?_⟩; have n0_ := Aside0.mk (Kd.R_elder' (zR HO_5.out) (Kd.R_base ho0) hb); have n1_ := Aside0.mk (Kd.R_elder' (zR HO_8.out) (Kd.R_base ho0) hb); have n2_ := Aside0.mk (Kd.R_elder' (zR HO354.out) (Kd.R_base ho0) hb); have n3_ := Aside0.mk (Kd.R_lower (Kd.R_new' (Kd.R_new' (Kd.R_new' ho0 (Kd.R_lt (zR HO_5.out))) (Kd.R_lt (zR HO_8.out))) (Kd.R_lt (zR HO354.out))) (zS HB.out)); have n4_ := Aside0.mk (below_step (zB HB.out) hb); clear HO_5; clear HO_8; clear HO354; clear HB; have HO_5 := n0_; have HO_8 := n1_; have HO354 := n2_; have HO357 := n3_; have HB := n4_; clear n0_ n1_ n2_ n3_ n4_; (try clear hb); (try clear hb2); (try clear hk); (try clear hi); (try clear ho0); obtain ⟨Ao59, co59, eo59⟩ := Kd.R_slice HO354.out; subst eo59; obtain ⟨Ao60, co60, eo60⟩ := Kd.R_slice HO357.out; subst eo60) | ((with_reducible refine gate_callee (f := 33) rfl ?_); refine goesL_ (some 74) rfl rfl Try.func33 (by kernel_rfl) rfl #[.slice Ao59 t352.length co59, .slice Ao60 t355.length co60] rfl (by (try simp only [za, zc, zn]); first | done | rfl) ?_; (with_reducible refine (impl_SharedOf.calls kj39 _ _ t352 _ _ t355 t358 _ ?side1 ?side2 ?side3 ?side4 A54.out).mono ?_); (case side1 => repeat (first | exact (Kd.R_reads' HO354.out).2.2 | (with_reducible refine Kd.C_alloc ?_ _) | (with_reducible refine Kd.C_drewN ?_ _) | (with_reducible refine Kd.C_drew ?_))); (case side2 => exact (Kd.R_reads' HO354.out).2.1); (case side3 => repeat (first | exact (Kd.R_reads' HO357.out).2.2 | (with_reducible refine Kd.C_alloc ?_ _) | (with_reducible refine Kd.C_drewN ?_ _) | (with_reducible refine Kd.C_drew ?_))); (case side4 => exact (Kd.R_reads' HO357.out).2.1); rintro e w61 ⟨v359, rfl, ho0, hb⟩; refine ⟨_, rfl, ?_⟩; have n0_ := Aside0.mk (Kd.R_elder' (zR HO_5.out) (Kd.R_base ho0) hb); have n1_ := Aside0.mk (Kd.R_elder' (zR HO_8.out) (Kd.R_base ho0) hb); have n2_ := Aside0.mk (Kd.R_elder' (zR HO354.out) (Kd.R_base ho0) hb); have n3_ := Aside0.mk (Kd.R_elder' (zR HO357.out) (Kd.R_base ho0) hb); have n4_ := Aside0.mk (Kd.R_lower (Kd.R_new' (Kd.R_new' (Kd.R_new' (Kd.R_new' ho0 (Kd.R_lt (zR HO_5.out))) (Kd.R_lt (zR HO_8.out))) (Kd.R_lt (zR HO354.out))) (Kd.R_lt (zR HO357.out))) (zS HB.out)); have n5_ := Aside0.mk (below_step (zB HB.out) hb); clear HO_5; clear HO_8; clear HO354; clear HO357; clear HB; have HO_5 := n0_; have HO_8 := n1_; have HO354 := n2_; have HO357 := n3_; have HO360 := n4_; have HB := n5_; clear n0_ n1_ n2_ n3_ n4_ n5_; (try clear hb); (try clear hb2); (try clear hk); (try clear hi); (try clear ho0); obtain ⟨Ao62, co62, eo62⟩ := Kd.R_slice HO360.out; subst eo62) | ((with_reducible refine gate_callee (f := 29) rfl ?_); refine goesL_ (some 77) rfl rfl Try.func29 (by kernel_rfl) rfl #[.slice Ao62 t358.length co62, .slice Ao24 t323.length co24] rfl (by (try simp only [za, zc, zn]); first | done | rfl) ?_; (with_reducible refine (laws_eqIntS.calls kj39 _ _ t358 _ _ t323 t361 _ ?side1 ?side2 ?side3 ?side4 A55.out).mono ?_); (case side1 => repeat (first | exact (Kd.R_reads' HO360.out).2.2 | (with_reducible refine Kd.C_alloc ?_ _) | (with_reducible refine Kd.C_drewN ?_ _) | (with_reducible refine Kd.C_drew ?_))); (case side2 => exact (Kd.R_reads' HO360.out).2.1); (case side3 => repeat (first | exact (Kd.R_reads' HO_5.out).2.2 | (with_reducible refine Kd.C_alloc ?_ _) | (with_reducible refine Kd.C_drewN ?_ _) | (with_reducible refine Kd.C_drew ?_))); (case side4 => exact (Kd.R_reads' HO_5.out).2.1); rintro e w' ⟨rfl, ⟨nd, rfl⟩⟩; refine ⟨_, rfl, ?_⟩))
           (try simp only [Act.put, List.setIfInBounds_toArray, List.set_cons_zero, List.set_cons_succ])
           have H := HU56.out
           clear HU56
           by_cases c63 : t361 = true
           ·subst c63
            rw [zT] at H
            obtain ⟨t362, A64, H⟩ := zb H
            have HU65 := Aside0.mk H
            clear H
            go_upto_if 83 with (first | ((with_reducible refine gate_callee (f := 31) rfl ?_); refine goesL_ (some 81) rfl rfl Try.func31 (by kernel_rfl) rfl #[.slice Ao23 t350.length co23, .int .i64 1] rfl (by (try simp only [List.map_toArray, List.map_cons, List.map_nil]); first | done | (rw [show t350.length = t332.length from (Kd.R_reads' HO_8.out).1.symm] <;> rfl) | rfl | (simp only [List.length_drop, List.length_take]; rfl)) ?_; (with_reducible refine (laws_heldIntS.calls kj39 _ _ t350 1 t362 _ ?side1 ?side2 A64.out).mono ?_); (case side1 => repeat (first | exact (Kd.R_reads' HO_8.out).2.2 | (with_reducible refine Kd.C_alloc ?_ _) | (with_reducible refine Kd.C_drewN ?_ _) | (with_reducible refine Kd.C_drew ?_))); (case side2 => rw [show t350.length = t332.length from (Kd.R_reads' HO_8.out).1.symm]; exact (Kd.R_reads' HO_8.out).2.1); rintro e w' ⟨rfl, ⟨nd, rfl⟩⟩; refine ⟨_, rfl, ?_⟩))
            (try simp only [Act.put, List.setIfInBounds_toArray, List.set_cons_zero, List.set_cons_succ])
            have H := HU65.out
            clear HU65
            by_cases c66 : t362 < 0
            ·rw [if_pos c66] at H
             have c66b0 : decide (t362 < 0) = true := decide_eq_true c66
             clear c66
             (first | rw [c66b0] | rw [c66b1] | (simp only [i64_w, i32_w]; rw [c66b0]) | skip)
             obtain rfl := Option.some.inj H
             go_wp2
             go_ret
             exact ⟨by first | rfl | (simp [errW_none, errW_some] <;> rfl) | (simp [*, errW_none, errW_some] <;> rfl), zB HB.out⟩
            ·rw [if_neg c66] at H
             have c66b0 : decide (t362 < 0) = false := decide_eq_false c66
             clear c66
             (first | rw [c66b0] | rw [c66b1] | (simp only [i64_w, i32_w]; rw [c66b0]) | skip)
             by_cases c67 : t362 = t349
             ·rw [if_pos c67] at H
              have c67b0 : (t362 == t349) = true := beq_iff_eq.mpr c67
              have c67b1 : (t362 != t349) = false := bne_eq_false_iff_eq.mpr c67
              clear c67
              obtain rfl := Option.some.inj H
              go_wp2
              go_ret
              exact ⟨by first | rfl | (simp [errW_none, errW_some] <;> rfl) | (simp [*, errW_none, errW_some] <;> rfl), zB HB.out⟩
             ·rw [if_neg c67] at H
              have c67b0 : (t362 == t349) = false := beq_eq_false_iff_ne.mpr c67
              have c67b1 : (t362 != t349) = true := bne_iff_ne.mpr c67
              obtain rfl := Option.some.inj H
              go_wp2
              go_ret
              exact ⟨by first | rfl | (simp [errW_none, errW_some] <;> rfl) | (simp [*, errW_none, errW_some] <;> rfl), zB HB.out⟩
           ·replace c63 := Bool.eq_false_iff.mpr c63
            subst c63
            rw [zF] at H
            obtain rfl := Option.some.inj H
            go_wp2
            go_ret
            exact ⟨by first | rfl | (simp [errW_none, errW_some] <;> rfl) | (simp [*, errW_none, errW_some] <;> rfl), zB HB.out⟩
          ·rw [if_neg c51] at H
           have c51b0 : (t351 == t349) = false := beq_eq_false_iff_ne.mpr c51
           have c51b1 : (t351 != t349) = true := bne_iff_ne.mpr c51
           obtain rfl := Option.some.inj H
           go_wp2
           go_ret
           exact ⟨by first | rfl | (simp [errW_none, errW_some] <;> rfl) | (simp [*, errW_none, errW_some] <;> rfl), zB HB.out⟩
     ·replace c37 := Bool.eq_false_iff.mpr c37
      subst c37
      rw [zF] at H
      obtain rfl := Option.some.inj H
      go_wp2
      go_ret
      exact ⟨by first | rfl | (simp [errW_none, errW_some] <;> rfl) | (simp [*, errW_none, errW_some] <;> rfl), zB HB.out⟩
    ·replace c31 := Bool.eq_false_iff.mpr c31
     subst c31
     rw [zF] at H
     obtain rfl := Option.some.inj H
     go_wp2
     go_ret
     exact ⟨by first | rfl | (simp [errW_none, errW_some] <;> rfl) | (simp [*, errW_none, errW_some] <;> rfl), zB HB.out⟩
   ·replace c25 := Bool.eq_false_iff.mpr c25
    subst c25
    rw [zF] at H
    obtain rfl := Option.some.inj H
    go_wp2
    go_ret
    exact ⟨by first | rfl | (simp [errW_none, errW_some] <;> rfl) | (simp [*, errW_none, errW_some] <;> rfl), zB HB.out⟩

/-- THE ONE PURE STATEMENT of laws_FnExactSharedOf: yours. -/
def laws_FnExactSharedOf.Pure : Prop := ∀ (l0 : List Int) (l1 : List Int), l0.length ≤ maxLen → l0.length * 8 ≤ 140737488351232 → (∀ x ∈ l0, (Lit.int .i64 x).wf = true) → l1.length ≤ maxLen → l1.length * 8 ≤ 140737488351232 → (∀ x ∈ l1, (Lit.int .i64 x).wf = true) → ∃ k, laws_FnExactSharedOf.f k l0 l1 = some true
theorem laws_FnExactSharedOf.walk (P : laws_FnExactSharedOf.Pure) (a0 : Option Addr) (len0 cap0 : Nat) (z0 : List Int) (a1 : Option Addr) (len1 cap1 : Nat) (z1 : List Int) (w : World) (w0 : (a0 = none ∧ len0 = 0 ∧ cap0 = 0 ∧ z0 = []) ∨ ∃ x, a0 = some x ∧ len0 ≤ cap0 ∧ cap0 ≤ maxLen ∧ z0.length = cap0 ∧ (∀ i, i < z0.length → w.cell? (x.add i) = some (.int .i64 (z0.getD i 0))) ∧ ∀ n ∈ z0, (Lit.int .i64 n).wf = true) (y0 : len0 * 8 ≤ 140737488351232) (w1 : (a1 = none ∧ len1 = 0 ∧ cap1 = 0 ∧ z1 = []) ∨ ∃ x, a1 = some x ∧ len1 ≤ cap1 ∧ cap1 ≤ maxLen ∧ z1.length = cap1 ∧ (∀ i, i < z1.length → w.cell? (x.add i) = some (.int .i64 (z1.getD i 0))) ∧ ∀ n ∈ z1, (Lit.int .i64 n).wf = true) (y1 : len1 * 8 ≤ 140737488351232) :
  Calls Try.prog 6 #[.slice a0 len0 cap0, .slice a1 len1 cap1] w fun e w' => e = .returned (.bool true) ∧ Below w.heap.size w w' := by
 obtain ⟨l0, rfl, hr0, hm0, hw0, hc0⟩ := ReadsInt.ofRowC w0
 obtain ⟨l1, rfl, hr1, hm1, hw1, hc1⟩ := ReadsInt.ofRowC w1
 obtain ⟨k, h⟩ := P l0 l1 hm0 y0 hw0 hm1 y1 hw1
 refine (laws_FnExactSharedOf.calls k _ _ l0 _ _ l1 true w (Kd.C_of_reads (d := (0 : Int)) (h1 := fun _ => rfl) hr0) hc0 (Kd.C_of_reads (d := (0 : Int)) (h1 := fun _ => rfl) hr1) hc1 h).mono ?_
 rintro e w' ⟨rfl, hd⟩
 exact ⟨rfl, hd⟩

end Go.Proofs.Ytbagfnppeidonaa.PFnExactSharedOf
