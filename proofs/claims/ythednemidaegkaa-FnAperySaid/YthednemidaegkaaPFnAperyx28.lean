-- Written by a program of this session (a turned copy of the kit's print; see NOTES.md).
import Derived.Test.YthednemidaegkaaPFnAperyx0
import Derived.Test.YthednemidaegkaaPFnAperyx27
namespace Go.Proofs.Ythednemidaegkaa.PFnApery
open Go.RowKit Go.Proofs.YthednemidaegkaaW.PrintWords Go.Proofs.YthednemidaegkaaW.PrintLast Go.Proofs.YthednemidaegkaaW.PrintMore
attribute [local go_sem] max2_int min2_int max_two min_two max_three min_three max_four min_four   -- for this text's walks alone
set_option linter.unusedVariables false
set_option linter.unusedSimpArgs false

/-! ### laws_sameInts: function 11 -/
def laws_sameInts.l0 : Nat → List Int → List Int → Int → Option (Bool)
 | 0, _, _, _ => none
 | k + 1, x0, x1, x5 => if x5 < (x0.length : Int) then (if 0 ≤ x5 then (if x5 < (x1.length : Int) then (if (rd x0 x5) = (rd x1 x5) then (laws_sameInts.l0 k x0 x1 (wrap64 (x5 + 1))) else (some false)) else (none)) else (none)) else (some true)
def laws_sameInts.f (k : Nat) (l0 : List Int) (l1 : List Int) : Option (Bool) := if (l0.length : Int) = (l1.length : Int) then (laws_sameInts.l0 k l0 l1 0) else (some false)
set_option maxHeartbeats 8000000 in
set_option maxRecDepth 100000 in
theorem laws_sameInts.calls (k : Nat) (A0 : Option Addr) (c0 : Nat) (l0 : List Int) (A1 : Option Addr) (c1 : Nat) (l1 : List Int) (r : Bool) (w : World) (hr0 : Kd.C (Kd.int .i64) w A0 l0.length l0) (hc0 : l0.length ≤ c0) (hr1 : Kd.C (Kd.int .i64) w A1 l1.length l1) (hc1 : l1.length ≤ c1) (h : laws_sameInts.f k l0 l1 = some r) :
  Calls Try.prog 11 #[.slice A0 l0.length c0, .slice A1 l1.length c1] w fun e w' => e = .returned (.bool r) ∧ Drawn0 w w' := by
 have HR0 := Aside0.mk hr0; have HC0 := Aside0.mk hc0; clear hr0 hc0; have HR1 := Aside0.mk hr1; have HC1 := Aside0.mk hc1; clear hr1 hc1; have H : (if (l0.length : Int) = (l1.length : Int) then (laws_sameInts.l0 k l0 l1 0) else (some false)) = some r := h; clear h
 by_cases c3 : (l0.length : Int) = (l1.length : Int)
 ·rw [if_pos c3] at H; have c3b0 : ((l0.length : Int) == (l1.length : Int)) = true := beq_iff_eq.mpr c3; have c3b1 : ((l0.length : Int) != (l1.length : Int)) = false := bne_eq_false_iff_eq.mpr c3; have c3b2 : (l0.length == l1.length) = true := by first | simpa using c3 | (simp at c3 ⊢; omega)
  clear c3; have H' := Aside0.mk H; clear H; go_enter Try.func11, Try.ntmps11; go_wp2
  repeat (go_quiet (fail); try go_wp2)
  go_loopg [5] k (fun kq v5 w' => ∃ (x5_1 : Int), v5 = .int .i64 x5_1 ∧ Aside0 (laws_sameInts.l0 kq l0 l1 x5_1 = some r) ∧ Aside0 (kq ≤ k) ∧ Drawn0 w w')
  case atStart => exact ⟨(0), (by first | rfl | (simp; done) | (simp [*]; done)), H', ⟨Nat.le_refl _⟩, by repeat (first | exact Drawn0.refl _ | apply Drawn0.step)⟩
  case round =>
   clear H'
   try clear c3b0 c3b1 c3b2
   obtain ⟨x5_1, rfl, HA, HK1, ⟨m1, rfl⟩⟩ := hrel
   cases gk with
   | zero => exact absurd HA.out (by simp [laws_sameInts.l0])
   | succ k1 =>
    have H := HA.out; clear HA; simp only [laws_sameInts.l0] at H
    by_cases c4 : x5_1 < (l0.length : Int)
    ·rw [if_pos c4] at H; have c4b0 : decide (x5_1 < (l0.length : Int)) = true := decide_eq_true c4; clear c4; obtain ⟨c5, H⟩ := zi H; have c5b0 : decide (0 ≤ x5_1) = true := decide_eq_true c5; clear c5; obtain ⟨c6, H⟩ := zi H; have c6b0 : decide (x5_1 < (l1.length : Int)) = true := decide_eq_true c6; clear c6
     by_cases c7 : (rd l0 x5_1) = (rd l1 x5_1)
     ·rw [if_pos c7] at H; have c7b0 : ((rd l0 x5_1) == (rd l1 x5_1)) = true := beq_iff_eq.mpr c7; have c7b1 : ((rd l0 x5_1) != (rd l1 x5_1)) = false := bne_eq_false_iff_eq.mpr c7; clear c7; have H' := Aside0.mk H; clear H; have p825 : 0 ≤ (x5_1 : Int) := of_decide_eq_true (by assumption); have q825 : x5_1 < (l0.length : Int) := of_decide_eq_true (by assumption); obtain ⟨ad825, e825, hx825_0⟩ := Kd.at_int HR0.out x5_1 p825 q825
      cases e825; replace p825 := eq_true p825; replace q825 := eq_true q825; have p826 : 0 ≤ (x5_1 : Int) := of_decide_eq_true (by assumption); have q826 : x5_1 < (l1.length : Int) := of_decide_eq_true (by assumption); obtain ⟨ad826, e826, hx826_0⟩ := Kd.at_int HR1.out x5_1 p826 q826
      cases e826; replace p826 := eq_true p826; replace q826 := eq_true q826; go_wp2
      repeat (go_quiet (fail); try go_wp2)
      go_roundg k1
      case measure => have := HK1.out; omega
      case rel => exact ⟨(wrap64 (x5_1 + 1)), (by first | rfl | (simp; done) | (simp [*]; done)), H', ⟨by have := HK1.out; omega⟩, by repeat (first | exact Drawn0.refl _ | apply Drawn0.step)⟩
     ·rw [if_neg c7] at H; have c7b0 : ((rd l0 x5_1) == (rd l1 x5_1)) = false := beq_eq_false_iff_ne.mpr c7; have c7b1 : ((rd l0 x5_1) != (rd l1 x5_1)) = true := bne_iff_ne.mpr c7; obtain rfl := Option.some.inj H; have p825 : 0 ≤ (x5_1 : Int) := of_decide_eq_true (by assumption); have q825 : x5_1 < (l0.length : Int) := of_decide_eq_true (by assumption); obtain ⟨ad825, e825, hx825_0⟩ := Kd.at_int HR0.out x5_1 p825 q825
      cases e825; replace p825 := eq_true p825; replace q825 := eq_true q825; have p826 : 0 ≤ (x5_1 : Int) := of_decide_eq_true (by assumption); have q826 : x5_1 < (l1.length : Int) := of_decide_eq_true (by assumption); obtain ⟨ad826, e826, hx826_0⟩ := Kd.at_int HR1.out x5_1 p826 q826
      cases e826; replace p826 := eq_true p826; replace q826 := eq_true q826; go_wp2
      repeat (go_quiet (fail); try go_wp2)
      go_ret
      exact ⟨by first | rfl | (simp; done) | (simp [*]; done), by repeat (first | exact Drawn0.refl _ | apply Drawn0.step)⟩
    ·rw [if_neg c4] at H; have c4b0 : decide (x5_1 < (l0.length : Int)) = false := decide_eq_false c4; clear c4; obtain rfl := Option.some.inj H; go_wp2
     repeat (go_quiet (fail); try go_wp2)
     go_ret
     exact ⟨by first | rfl | (simp; done) | (simp [*]; done), by repeat (first | exact Drawn0.refl _ | apply Drawn0.step)⟩
 ·rw [if_neg c3] at H; have c3b0 : ((l0.length : Int) == (l1.length : Int)) = false := beq_eq_false_iff_ne.mpr c3; have c3b1 : ((l0.length : Int) != (l1.length : Int)) = true := bne_iff_ne.mpr c3; have c3b2 : (l0.length == l1.length) = false := by first | simpa using c3 | (simp at c3 ⊢; omega)
  obtain rfl := Option.some.inj H; go_enter Try.func11, Try.ntmps11; go_wp2
  repeat (go_quiet (fail); try go_wp2)
  go_ret
  exact ⟨by first | rfl | (simp; done) | (simp [*]; done), by repeat (first | exact Drawn0.refl _ | apply Drawn0.step)⟩

/-! ### spec_EqualSemigroup: function 13 -/
def spec_EqualSemigroup.f (k : Nat) (l0_0 : List Int) (l1_0 : List Int) : Option (Bool) := (spec_l2Same.f k l0_0 l1_0).bind fun t829 => (some t829)
set_option maxHeartbeats 8000000 in
set_option maxRecDepth 100000 in
theorem spec_EqualSemigroup.calls (k : Nat) (A0_0 : Option Addr) (c0_0 : Nat) (l0_0 : List Int) (A1_0 : Option Addr) (c1_0 : Nat) (l1_0 : List Int) (r : Bool) (w : World) (hr0_0 : Kd.C (Kd.int .i64) w A0_0 l0_0.length l0_0) (hc0_0 : l0_0.length ≤ c0_0) (hr1_0 : Kd.C (Kd.int .i64) w A1_0 l1_0.length l1_0) (hc1_0 : l1_0.length ≤ c1_0) (h : spec_EqualSemigroup.f k l0_0 l1_0 = some r) :
  Calls Try.prog 13 #[.agg #[.slice A0_0 l0_0.length c0_0], .agg #[.slice A1_0 l1_0.length c1_0]] w fun e w' => e = .returned (.bool r) ∧ Below w.heap.size w w' := by
 have hu26 := Try.underlying26; have HR0_0 := Aside0.mk hr0_0; have HC0_0 := Aside0.mk hc0_0; clear hr0_0 hc0_0; have HR1_0 := Aside0.mk hr1_0; have HC1_0 := Aside0.mk hc1_0; clear hr1_0 hc1_0; have HB := Aside0.mk (Below.refl w.heap.size w); have H : ((spec_l2Same.f k l0_0 l1_0).bind fun t829 => (some t829)) = some r := h; clear h; obtain ⟨t829, A3, H⟩ := zb H; obtain rfl := Option.some.inj H; go_enter Try.func13, Try.ntmps13; go_wp2_with (first | ((with_reducible refine gate_dst (N := 2) rfl ?_); refine box_event ?hg (N := 2) ?hd (cs := #[.slice A0_0 l0_0.length c0_0]) (t := 26) ?hr ?_; (case hd => rfl); (case hg => rfl); (case hr => first | (go_simp; done) | (go_simp; rfl)); intro gb827 hg w4 hbox hb; have BK827 := Aside0.mk (hbox); have GW827 := Aside0.mk ((by rw [hg]; exact (zS HB.out) : w.heap.size ≤ gb827)); have GE827 := Aside0.mk ((by rw [hg]; exact (zS HB.out) : w.heap.size ≤ gb827)); replace HB := Aside0.mk (below_step (zB HB.out) hb); have := Ge.mk GE827.out; clear hb hbox hg) | ((with_reducible refine gate_dst (N := 3) rfl ?_); refine box_event ?hg (N := 3) ?hd (cs := #[.slice A1_0 l1_0.length c1_0]) (t := 26) ?hr ?_; (case hd => rfl); (case hg => rfl); (case hr => first | (go_simp; done) | (go_simp; rfl)); intro gb828 hg w5 hbox hb; have BK828 := Aside0.mk (hbox); have GW828 := Aside0.mk ((by rw [hg]; exact (zS HB.out) : w.heap.size ≤ gb828)); have GE828 := Aside0.mk ((by rw [hg]; exact (zS HB.out) : w.heap.size ≤ gb828)); replace HB := Aside0.mk (below_step (zB HB.out) hb); have NB827_828 := Aside0.mk ((by rw [hg]; exact Nat.ne_of_lt (blk_lt (g := gb827) (o := .cells #[.slice A0_0 l0_0.length c0_0] 26 (0, 0)) (zk BK827.out)) : gb827 ≠ gb828)); have NB828_827 := Aside0.mk ((by rw [hg]; exact Nat.ne_of_gt (blk_lt (g := gb827) (o := .cells #[.slice A0_0 l0_0.length c0_0] 26 (0, 0)) (zk BK827.out)) : gb828 ≠ gb827)); replace BK827 := Aside0.mk (blk_below (zk BK827.out) hb); have := Ge.mk GE828.out; clear hb hbox hg; have hnb6 := NB827_828.out; have hnc6 := NB828_827.out; have hcz7_0 : w5.cell? ⟨gb827, 0, none⟩ = some (.slice A0_0 l0_0.length c0_0) := (blk_cell BK827.out 0).trans rfl; have hfz7_0 := blk_frozen BK827.out 0; have hcz8_0 : w5.cell? ⟨gb828, 0, none⟩ = some (.slice A1_0 l1_0.length c1_0) := (blk_cell BK828.out 0).trans rfl; have hfz8_0 := blk_frozen BK828.out 0) | ((with_reducible refine gate_callee (f := 47) rfl ?_); refine goesL_ (some 9) rfl rfl Try.func47 (by kernel_rfl) rfl #[.slice A0_0 l0_0.length c0_0, .slice A1_0 l1_0.length c1_0] rfl (by (try simp only [za, zc, zn]); first | done | rfl) ?_; (with_reducible refine (spec_l2Same.calls k _ _ l0_0 _ _ l1_0 t829 _ ?side1 ?side2 ?side3 ?side4 A3.out).mono ?_); (case side1 => exact zC (Kd.C_below HR0_0.out HB.out)); (case side2 => exact HC0_0.out); (case side3 => exact zC (Kd.C_below HR1_0.out HB.out)); (case side4 => exact HC1_0.out); rintro e w' ⟨rfl, ⟨nd, rfl⟩⟩; refine ⟨_, rfl, ?_⟩)); go_ret
 exact ⟨by first | rfl | (simp [*, errW_none, errW_some] <;> rfl), zB HB.out⟩

/-! ### slices_Max_int_int: function 50 -/
def slices_Max_int_int.f (l0 : List Int) : Option (Int) := if 0 < l0.length ∧ l0.length ≤ 9223372036854775807 then some (Lib.maxOf l0) else none
set_option maxHeartbeats 8000000 in
set_option maxRecDepth 100000 in
theorem slices_Max_int_int.calls (A0 : Option Addr) (c0 : Nat) (l0 : List Int) (r : Int) (w : World) (hr0 : Kd.C (Kd.int .i64) w A0 l0.length l0) (hc0 : l0.length ≤ c0) (h : slices_Max_int_int.f l0 = some r) :
 Calls Try.prog 50 #[.slice A0 l0.length c0] w fun e w' => e = .returned (.int .i64 r) ∧ Drawn0 w w' := by
 unfold slices_Max_int_int.f at h
 by_cases hh : 0 < l0.length ∧ l0.length ≤ 9223372036854775807
 ·rw [if_pos hh] at h; obtain rfl := Option.some.inj h; clear h; obtain ⟨hn, hbig⟩ := hh; obtain ⟨ad, e0, h0⟩ := Kd.at_int hr0 0 (by omega) (by omega)
  have hc : ∀ j : Nat, j < l0.length → w.cell? (ad.add j) = some (.int .i64 (l0.getD j 0)) := fun j hj => by
   obtain ⟨ad', e', h'⟩ := Kd.at_int hr0 (j : Int) (by omega) (by omega); rw [e0] at e'
   cases e'; simpa [rd] using h'
  subst e0; clear hr0 h0
  have h0' : w.cell? ad = some (.int .i64 (l0.getD 0 0)) := by
   have := hc 0 hn; rwa [Addr.add_zero'] at this
  have hb0 : decide ((l0.length : Int) < 1) = false := decide_eq_false (by omega); have hb1 : decide (0 < (l0.length : Int)) = true := decide_eq_true (by omega); have hb2 : decide (0 < l0.length) = true := decide_eq_true hn; go_enter Try.func50, Try.ntmps50; go_wp2; go_loop [3, 4] (fun m i => ∃ k : Nat, 0 < k ∧ k ≤ l0.length ∧ i = .int .i64 k ∧ m = .int .i64 (Lib.maxOf (l0.take k))) (fun _ i => match i with | .int _ q => l0.length - q.toNat | _ => 0)
  case atStart => exact ⟨1, Nat.one_pos, hn, rfl, by rw [Lib.maxOf_one]; first | rfl | (simp [List.getD, hn]; done) | (congr 1; simp [List.getD_eq_getElem?_getD, hn])⟩
  case round =>
   obtain ⟨k, hk0, hk, rfl, rfl⟩ := hrel
   by_cases hlt : k < l0.length
   ·have hcell : w.cell? (ad.add k) = some (.int .i64 (l0.getD k 0)) := hc k hlt; have hk1 : decide ((k : Int) < (l0.length : Int)) = true := decide_eq_true (by omega); have hk2 : decide (k < l0.length) = true := decide_eq_true hlt; go_wp2; refine ⟨⟨k + 1, Nat.succ_pos k, hlt, ?_, ?_⟩, ?_⟩
    ·rfl
    ·rw [Lib.maxOf_step l0 k hk0 hlt]; have e4 : l0.getD k 0 = l0[k] := by simp [List.getD_eq_getElem?_getD, hlt]
     rw [e4]; congr 1; rw [Int.max_def]; split <;> split <;> omega
    ·show l0.length - ((k : Int) + 1).toNat < l0.length - ((k : Int)).toNat; omega
   ·have : k = l0.length := by omega
    subst this; have hk1 : decide ((l0.length : Int) < (l0.length : Int)) = false := decide_eq_false (by omega); have hk2 : decide (l0.length < l0.length) = false := decide_eq_false (by omega); go_wp2; go_ret
    exact ⟨by first | rfl | (simp; done) | (rw [List.take_length]; rfl), by repeat (first | exact Drawn0.refl _ | apply Drawn0.step)⟩
 ·rw [if_neg hh] at h; exact absurd h (by simp)

/-! ### impl_FrobeniusByApery: function 15 -/
def impl_FrobeniusByApery.f (k : Nat) (l0_0 : List Int) (a1 : Int) : Option (Int) := (impl_AperySet.f k l0_0 a1).bind fun t831 => (if (t831.length : Int) = 0 then (some (-1)) else ((slices_Max_int_int.f t831).bind fun t834 => (some (wrap64 (t834 - a1)))))
set_option maxHeartbeats 8000000 in
set_option maxRecDepth 100000 in
theorem impl_FrobeniusByApery.calls (k : Nat) (A0_0 : Option Addr) (c0_0 : Nat) (l0_0 : List Int) (a1 : Int) (r : Int) (w : World) (hr0_0 : Kd.C (Kd.int .i64) w A0_0 l0_0.length l0_0) (hc0_0 : l0_0.length ≤ c0_0) (h : impl_FrobeniusByApery.f k l0_0 a1 = some r) :
  Calls Try.prog 15 #[.agg #[.slice A0_0 l0_0.length c0_0], .int .i64 a1] w fun e w' => e = .returned (.int .i64 r) ∧ Below w.heap.size w w' := by
 have hu26 := Try.underlying26; have HR0_0 := Aside0.mk hr0_0; have HC0_0 := Aside0.mk hc0_0; clear hr0_0 hc0_0; have HB := Aside0.mk (Below.refl w.heap.size w); have H : ((impl_AperySet.f k l0_0 a1).bind fun t831 => (if (t831.length : Int) = 0 then (some (-1)) else ((slices_Max_int_int.f t831).bind fun t834 => (some (wrap64 (t834 - a1)))))) = some r := h; clear h; obtain ⟨t831, A3, H⟩ := zb H; have HU4 := Aside0.mk H; clear H; go_enter Try.func15, Try.ntmps15; go_upto_if 11 with (first | ((with_reducible refine gate_dst (N := 2) rfl ?_); refine box_event ?hg (N := 2) ?hd (cs := #[.slice A0_0 l0_0.length c0_0]) (t := 26) ?hr ?_; (case hd => rfl); (case hg => rfl); (case hr => first | (go_simp; done) | (go_simp; rfl)); intro gb830 hg w5 hbox hb; have BK830 := Aside0.mk (hbox); have GW830 := Aside0.mk ((by rw [hg]; exact (zS HB.out) : w.heap.size ≤ gb830)); have GE830 := Aside0.mk ((by rw [hg]; exact (zS HB.out) : w.heap.size ≤ gb830)); replace HB := Aside0.mk (below_step (zB HB.out) hb); have := Ge.mk GE830.out; clear hb hbox hg; have hcz6_0 : w5.cell? ⟨gb830, 0, none⟩ = some (.slice A0_0 l0_0.length c0_0) := (blk_cell BK830.out 0).trans rfl; have hfz6_0 := blk_frozen BK830.out 0) | ((with_reducible refine gate_callee (f := 7) rfl ?_); refine goesL_ (some 8) rfl rfl Try.func7 (by kernel_rfl) rfl #[.agg #[.slice A0_0 l0_0.length c0_0], .int .i64 a1] rfl (by (try simp only [za, zc, zn]); first | done | rfl) ?_; (with_reducible refine (impl_AperySet.calls k _ _ l0_0 a1 t831 _ ?side1 ?side2 A3.out).mono ?_); (case side1 => exact zC (Kd.C_below HR0_0.out HB.out)); (case side2 => exact HC0_0.out); rintro e w7 ⟨v832, rfl, ho0, hb⟩; refine ⟨_, rfl, ?_⟩; have HO833 := Aside0.mk (Kd.R_lower ho0 (zS HB.out)); replace BK830 := Aside0.mk (blk_below (zk BK830.out) hb); replace HB := Aside0.mk (below_step (zB HB.out) hb); (try clear hb); (try clear hb2); (try clear hk); (try clear hi); (try clear ho0); obtain ⟨Ao8, co8, eo8⟩ := Kd.R_slice HO833.out; subst eo8))
 (try simp only [Act.put, List.setIfInBounds_toArray, List.set_cons_zero, List.set_cons_succ]); have H := HU4.out; clear HU4
 by_cases c9 : (t831.length : Int) = 0
 ·rw [if_pos c9] at H; have c9b0 : ((t831.length : Int) == 0) = true := beq_iff_eq.mpr c9; have c9b1 : ((t831.length : Int) != 0) = false := bne_eq_false_iff_eq.mpr c9; clear c9; (first | rw [c9b0] | rw [c9b1] | (simp only [i64_w, i32_w]; rw [c9b0]) | skip); obtain rfl := Option.some.inj H; go_wp2; go_ret
  exact ⟨by first | rfl | (simp [*, errW_none, errW_some] <;> rfl), zB HB.out⟩
 ·rw [if_neg c9] at H; have c9b0 : ((t831.length : Int) == 0) = false := beq_eq_false_iff_ne.mpr c9; have c9b1 : ((t831.length : Int) != 0) = true := bne_iff_ne.mpr c9; have c9b2 : ¬ (t831 = []) := fun h_ => c9 (by rw [h_]; rfl)
  (first | rw [c9b0] | rw [c9b1] | (simp only [i64_w, i32_w]; rw [c9b0]) | skip); obtain ⟨t834, A10, H⟩ := zb H; obtain rfl := Option.some.inj H; go_wp2_with (first | ((with_reducible refine gate_callee (f := 50) rfl ?_); refine goesL_ (some 13) rfl rfl Try.func50 (by kernel_rfl) rfl #[.slice Ao8 t831.length co8] rfl (by (try simp only [za, zc, zn]); first | done | rfl) ?_; (with_reducible refine (slices_Max_int_int.calls _ _ t831 t834 _ ?side1 ?side2 A10.out).mono ?_); (case side1 => repeat (first | exact (Kd.R_reads' HO833.out).2.2 | (with_reducible refine Kd.C_alloc ?_ _) | (with_reducible refine Kd.C_drewN ?_ _) | (with_reducible refine Kd.C_drew ?_))); (case side2 => exact (Kd.R_reads' HO833.out).2.1); rintro e w' ⟨rfl, ⟨nd, rfl⟩⟩; refine ⟨_, rfl, ?_⟩)); go_ret
  exact ⟨by first | rfl | (simp [*, errW_none, errW_some] <;> rfl), zB HB.out⟩

/-! ### impl_GenusByApery: function 16 -/
def impl_GenusByApery.l0 : Nat → Int → Int → List Int → Int → Int → Option (Int)
 | 0, _, _, _, _, _ => none
 | k + 1, x1, x6, x15, x16, x17 => if x17 < x16 then (if 0 ≤ x17 then (if x17 < (x15.length : Int) then (if x1 = 0 then (none) else (impl_GenusByApery.l0 k x1 (wrap64 (x6 + (wrap64 (Int.tdiv (rd x15 x17) x1)))) x15 x16 (wrap64 (x17 + 1)))) else (none)) else (none)) else (some x6)
def impl_GenusByApery.f (k : Nat) (l0_0 : List Int) (a1 : Int) : Option (Int) := (impl_AperySet.f k l0_0 a1).bind fun t836 => (if (t836.length : Int) = 0 then (some (-1)) else (impl_GenusByApery.l0 k a1 0 t836 (t836.length : Int) 0))
set_option maxHeartbeats 8000000 in
set_option maxRecDepth 100000 in
theorem impl_GenusByApery.calls (k : Nat) (A0_0 : Option Addr) (c0_0 : Nat) (l0_0 : List Int) (a1 : Int) (r : Int) (w : World) (hr0_0 : Kd.C (Kd.int .i64) w A0_0 l0_0.length l0_0) (hc0_0 : l0_0.length ≤ c0_0) (h : impl_GenusByApery.f k l0_0 a1 = some r) :
  Calls Try.prog 16 #[.agg #[.slice A0_0 l0_0.length c0_0], .int .i64 a1] w fun e w' => e = .returned (.int .i64 r) ∧ Below w.heap.size w w' := by
 have hu26 := Try.underlying26; have HR0_0 := Aside0.mk hr0_0; have HC0_0 := Aside0.mk hc0_0; clear hr0_0 hc0_0; have HB := Aside0.mk (Below.refl w.heap.size w); have H : ((impl_AperySet.f k l0_0 a1).bind fun t836 => (if (t836.length : Int) = 0 then (some (-1)) else (impl_GenusByApery.l0 k a1 0 t836 (t836.length : Int) 0))) = some r := h; clear h; obtain ⟨t836, A3, H⟩ := zb H; have HU4 := Aside0.mk H; clear H; go_enter Try.func16, Try.ntmps16; go_upto_if 14 with (first | ((with_reducible refine gate_dst (N := 2) rfl ?_); refine box_event ?hg (N := 2) ?hd (cs := #[.slice A0_0 l0_0.length c0_0]) (t := 26) ?hr ?_; (case hd => rfl); (case hg => rfl); (case hr => first | (go_simp; done) | (go_simp; rfl)); intro gb835 hg w5 hbox hb; have BK835 := Aside0.mk (hbox); have GW835 := Aside0.mk ((by rw [hg]; exact (zS HB.out) : w.heap.size ≤ gb835)); have GE835 := Aside0.mk ((by rw [hg]; exact (zS HB.out) : w.heap.size ≤ gb835)); replace HB := Aside0.mk (below_step (zB HB.out) hb); have := Ge.mk GE835.out; clear hb hbox hg; have hcz6_0 : w5.cell? ⟨gb835, 0, none⟩ = some (.slice A0_0 l0_0.length c0_0) := (blk_cell BK835.out 0).trans rfl; have hfz6_0 := blk_frozen BK835.out 0) | ((with_reducible refine gate_callee (f := 7) rfl ?_); refine goesL_ (some 11) rfl rfl Try.func7 (by kernel_rfl) rfl #[.agg #[.slice A0_0 l0_0.length c0_0], .int .i64 a1] rfl (by (try simp only [za, zc, zn]); first | done | rfl) ?_; (with_reducible refine (impl_AperySet.calls k _ _ l0_0 a1 t836 _ ?side1 ?side2 A3.out).mono ?_); (case side1 => exact zC (Kd.C_below HR0_0.out HB.out)); (case side2 => exact HC0_0.out); rintro e w7 ⟨v837, rfl, ho0, hb⟩; refine ⟨_, rfl, ?_⟩; have HO838 := Aside0.mk (Kd.R_lower ho0 (zS HB.out)); replace BK835 := Aside0.mk (blk_below (zk BK835.out) hb); replace HB := Aside0.mk (below_step (zB HB.out) hb); (try clear hb); (try clear hb2); (try clear hk); (try clear hi); (try clear ho0); obtain ⟨Ao8, co8, eo8⟩ := Kd.R_slice HO838.out; subst eo8))
 (try simp only [Act.put, List.setIfInBounds_toArray, List.set_cons_zero, List.set_cons_succ]); have H := HU4.out; clear HU4
 by_cases c9 : (t836.length : Int) = 0
 ·rw [if_pos c9] at H; have c9b0 : ((t836.length : Int) == 0) = true := beq_iff_eq.mpr c9; have c9b1 : ((t836.length : Int) != 0) = false := bne_eq_false_iff_eq.mpr c9; clear c9; (first | rw [c9b0] | rw [c9b1] | (simp only [i64_w, i32_w]; rw [c9b0]) | skip); obtain rfl := Option.some.inj H; go_wp2; go_ret
  exact ⟨by first | rfl | (simp [*, errW_none, errW_some] <;> rfl), zB HB.out⟩
 ·rw [if_neg c9] at H; have c9b0 : ((t836.length : Int) == 0) = false := beq_eq_false_iff_ne.mpr c9; have c9b1 : ((t836.length : Int) != 0) = true := bne_iff_ne.mpr c9; have c9b2 : ¬ (t836 = []) := fun h_ => c9 (by rw [h_]; rfl)
  (first | rw [c9b0] | rw [c9b1] | (simp only [i64_w, i32_w]; rw [c9b0]) | skip); have H' := Aside0.mk H; clear H; go_wp2; go_loopg [6, 17] k (fun kq v6 v17 w' => ∃ (x6_1 : Int) (x17_1 : Int), v6 = .int .i64 x6_1 ∧ v17 = .int .i64 x17_1 ∧ Aside0 (impl_GenusByApery.l0 kq a1 x6_1 t836 (t836.length : Int) x17_1 = some r) ∧ Aside0 (kq ≤ k) ∧ Aside0 (Kd.R (Kd.int .i64) 3 w' w.heap.size (fun _ => True) (.slice Ao8 t836.length co8) t836) ∧ Aside0 (w'.heap[gb835]? = some (.cells #[(.slice A0_0 l0_0.length c0_0)] 26 (0, 0))) ∧ Aside0 (Below w.heap.size w w'))
  case atStart => exact ⟨(0), (0), (by first | rfl | (simp; done) | (simp [*]; done)), (by first | rfl | (simp; done) | (simp [*]; done)), H', ⟨Nat.le_refl _⟩, ⟨zR HO838.out⟩, ⟨zk BK835.out⟩, ⟨zB HB.out⟩⟩
  case round =>
   clear H'
   try clear c9 c9b0 c9b1 c9b2 hcz6_0 hfz6_0
   obtain ⟨x6_1, x17_1, rfl, rfl, HA, HK1, HO_15, BK835, HB⟩ := hrel
   cases gk with
   | zero => exact absurd HA.out (by simp [impl_GenusByApery.l0])
   | succ k1 =>
    have H := HA.out; clear HA; simp only [impl_GenusByApery.l0] at H
    by_cases c10 : x17_1 < (t836.length : Int)
    ·rw [if_pos c10] at H; have c10b0 : decide (x17_1 < (t836.length : Int)) = true := decide_eq_true c10; clear c10; obtain ⟨c11, H⟩ := zi H; have c11b0 : decide (0 ≤ x17_1) = true := decide_eq_true c11; clear c11; obtain ⟨c12, H⟩ := zi H; have c12b0 : decide (x17_1 < (t836.length : Int)) = true := decide_eq_true c12; clear c12
     by_cases c13 : a1 = 0
     ·rw [if_pos c13] at H; exact absurd H (by simp)
     ·rw [if_neg c13] at H; have c13b0 : (a1 == 0) = false := beq_eq_false_iff_ne.mpr c13; have c13b1 : (a1 != 0) = true := bne_iff_ne.mpr c13; have H' := Aside0.mk H; clear H; have p839 : 0 ≤ (x17_1 : Int) := of_decide_eq_true (by assumption); have q839 : x17_1 < (t836.length : Int) := of_decide_eq_true (by assumption); obtain ⟨ad839, e839, hx839_0⟩ := Kd.at_int (Kd.R_reads' HO_15.out).2.2 x17_1 p839 q839
      cases e839; replace p839 := eq_true p839; replace q839 := eq_true q839; go_wp2
      go_roundg k1
      case measure => have := HK1.out; omega
      case rel => exact ⟨(wrap64 (x6_1 + (wrap64 (Int.tdiv (rd t836 x17_1) a1)))), (wrap64 (x17_1 + 1)), (by first | rfl | (simp; done) | (simp [*]; done)), (by first | rfl | (simp; done) | (simp [*]; done)), H', ⟨by have := HK1.out; omega⟩, ⟨zR HO_15.out⟩, ⟨zk BK835.out⟩, ⟨zB HB.out⟩⟩
    ·rw [if_neg c10] at H; have c10b0 : decide (x17_1 < (t836.length : Int)) = false := decide_eq_false c10; clear c10; obtain rfl := Option.some.inj H; go_wp2; go_ret
     exact ⟨by first | rfl | (simp [*, errW_none, errW_some] <;> rfl), zB HB.out⟩

/-! ### spec_GenusOf: function 18 -/
def spec_GenusOf.f (k : Nat) (l0_0 : List Int) : Option (Int) := (spec_IsSemigroup.f k l0_0).bind fun t841 => (if t841 = true then ((spec_l4Gaps.f k l0_0).bind fun t842 => (some (t842.length : Int))) else (some (-1)))
set_option maxHeartbeats 8000000 in
set_option maxRecDepth 100000 in
theorem spec_GenusOf.calls (k : Nat) (A0_0 : Option Addr) (c0_0 : Nat) (l0_0 : List Int) (r : Int) (w : World) (hr0_0 : Kd.C (Kd.int .i64) w A0_0 l0_0.length l0_0) (hc0_0 : l0_0.length ≤ c0_0) (h : spec_GenusOf.f k l0_0 = some r) :
  Calls Try.prog 18 #[.agg #[.slice A0_0 l0_0.length c0_0]] w fun e w' => e = .returned (.int .i64 r) ∧ Below w.heap.size w w' := by
 have hu26 := Try.underlying26; have HR0_0 := Aside0.mk hr0_0; have HC0_0 := Aside0.mk hc0_0; clear hr0_0 hc0_0; have HB := Aside0.mk (Below.refl w.heap.size w); have H : ((spec_IsSemigroup.f k l0_0).bind fun t841 => (if t841 = true then ((spec_l4Gaps.f k l0_0).bind fun t842 => (some (t842.length : Int))) else (some (-1)))) = some r := h; clear h; obtain ⟨t841, A2, H⟩ := zb H; have HU3 := Aside0.mk H; clear H; go_enter Try.func18, Try.ntmps18; go_upto_if 5 with (first | ((with_reducible refine gate_dst (N := 1) rfl ?_); refine box_event ?hg (N := 1) ?hd (cs := #[.slice A0_0 l0_0.length c0_0]) (t := 26) ?hr ?_; (case hd => rfl); (case hg => rfl); (case hr => first | (go_simp; done) | (go_simp; rfl)); intro gb840 hg w4 hbox hb; have BK840 := Aside0.mk (hbox); have GW840 := Aside0.mk ((by rw [hg]; exact (zS HB.out) : w.heap.size ≤ gb840)); have GE840 := Aside0.mk ((by rw [hg]; exact (zS HB.out) : w.heap.size ≤ gb840)); replace HB := Aside0.mk (below_step (zB HB.out) hb); have := Ge.mk GE840.out; clear hb hbox hg; have hcz5_0 : w4.cell? ⟨gb840, 0, none⟩ = some (.slice A0_0 l0_0.length c0_0) := (blk_cell BK840.out 0).trans rfl; have hfz5_0 := blk_frozen BK840.out 0) | ((with_reducible refine gate_callee (f := 30) rfl ?_); refine goesL_ (some 4) rfl rfl Try.func30 (by kernel_rfl) rfl #[.agg #[.slice A0_0 l0_0.length c0_0]] rfl (by (try simp only [za, zc, zn]); first | done | rfl) ?_; (with_reducible refine (spec_IsSemigroup.calls k _ _ l0_0 t841 _ ?side1 ?side2 A2.out).mono ?_); (case side1 => exact zC (Kd.C_below HR0_0.out HB.out)); (case side2 => exact HC0_0.out); rintro e w6 ⟨rfl, hb⟩; refine ⟨_, rfl, ?_⟩; replace BK840 := Aside0.mk (blk_below (zk BK840.out) hb); replace HB := Aside0.mk (below_step (zB HB.out) hb); (try clear hb); (try clear hb2); (try clear hk); (try clear hi)))
 (try simp only [Act.put, List.setIfInBounds_toArray, List.set_cons_zero, List.set_cons_succ]); have H := HU3.out; clear HU3
 by_cases c7 : t841 = true
 ·subst c7; rw [zT] at H; obtain ⟨t842, A8, H⟩ := zb H; obtain rfl := Option.some.inj H; have hcz9_0 : w6.cell? ⟨gb840, 0, none⟩ = some (.slice A0_0 l0_0.length c0_0) := (blk_cell BK840.out 0).trans rfl; have hfz9_0 := blk_frozen BK840.out 0; go_wp2_with (first | ((with_reducible refine gate_callee (f := 52) rfl ?_); refine goesL_ (some 7) rfl rfl Try.func52 (by kernel_rfl) rfl #[.agg #[.slice A0_0 l0_0.length c0_0]] rfl (by (try simp only [za, zc, zn]); first | done | rfl) ?_; (with_reducible refine (spec_l4Gaps.calls k _ _ l0_0 t842 _ ?side1 ?side2 A8.out).mono ?_); (case side1 => exact zC (Kd.C_below HR0_0.out HB.out)); (case side2 => exact HC0_0.out); rintro e w10 ⟨v843, rfl, ho0, hb⟩; refine ⟨_, rfl, ?_⟩; have HO844 := Aside0.mk (Kd.R_lower ho0 (zS HB.out)); replace BK840 := Aside0.mk (blk_below (zk BK840.out) hb); replace HB := Aside0.mk (below_step (zB HB.out) hb); (try clear hb); (try clear hb2); (try clear hk); (try clear hi); (try clear ho0); obtain ⟨Ao11, co11, eo11⟩ := Kd.R_slice HO844.out; subst eo11)); go_ret
  exact ⟨by first | rfl | (simp [*, errW_none, errW_some] <;> rfl), zB HB.out⟩
 ·replace c7 := Bool.eq_false_iff.mpr c7; subst c7; rw [zF] at H; obtain rfl := Option.some.inj H; go_wp2; go_ret
  exact ⟨by first | rfl | (simp [*, errW_none, errW_some] <;> rfl), zB HB.out⟩

end Go.Proofs.Ythednemidaegkaa.PFnApery
