-- Written by a program of this session (a turned copy of the kit's print; see NOTES.md).
import Derived.Test.YtbagfnppeidonaaPFnSymmetryx0
import Derived.Test.YtbagfnppeidonaaPFnSymmetryx1
import Derived.Test.YtbagfnppeidonaaPFnSymmetryx4
import Derived.Test.YtbagfnppeidonaaPFnSymmetryx6
import Derived.Test.YtbagfnppeidonaaPFnSymmetryx7
import Derived.Test.YtbagfnppeidonaaPFnSymmetryx12
import Derived.Test.YtbagfnppeidonaaPFnSymmetryx13
import Derived.Test.YtbagfnppeidonaaPFnSymmetryx14
namespace Go.Proofs.Ytbagfnppeidonaa.PFnSymmetry
open Go.RowKit Go.Proofs.YtbagfnppeidonaaW.PrintWords Go.Proofs.YtbagfnppeidonaaW.PrintLast Go.Proofs.YtbagfnppeidonaaW.PrintMore
attribute [local go_sem] max2_int min2_int max_two min_two max_three min_three max_four min_four   -- for this text's walks alone
set_option linter.unusedVariables false
set_option linter.unusedSimpArgs false

/-! ### impl_halved: function 145 -/
def impl_halved.l0 : Nat → Int → Int → List Bool → Int → Option (Bool)
 | 0, _, _, _, _ => none
 | k + 1, x1, x5, x6, x7 => if x7 ≤ x5 then (if x7 = x1 then (impl_halved.l0 k x1 x5 x6 (wrap64 (x7 + 1))) else (if 0 ≤ x7 then (if x7 < (x6.length : Int) then (if 0 ≤ (wrap64 (x5 - x7)) then (if (wrap64 (x5 - x7)) < (x6.length : Int) then (if ((rdOf false x6 x7) == (rdOf false x6 (wrap64 (x5 - x7)))) = true then (some false) else (impl_halved.l0 k x1 x5 x6 (wrap64 (x7 + 1)))) else (none)) else (none)) else (none)) else (none))) else (some true)
def impl_halved.f (k : Nat) (l0_0 : List Int) (a1 : Int) : Option (Bool) := (impl_FrobeniusOf.f k l0_0).bind fun t511 => ((impl_table.f k l0_0 200).bind fun t512 => (impl_halved.l0 k a1 t511 t512 0))
theorem impl_halved.mono_l : ∀ k, (∀ y0 y1 y2 y3, LeO (impl_halved.l0 k y0 y1 y2 y3) (impl_halved.l0 (k + 1) y0 y1 y2 y3))
 | 0 => fun _ _ _ _ r h => by simp [impl_halved.l0] at h
 | k + 1 => by
  have ih0 := impl_halved.mono_l k
  ·intro y0 y1 y2 y3
   unfold impl_halved.l0
   repeat' first
   | (with_reducible first | exact ih0 _ _ _ _ | exact impl_FrobeniusOf.mono _ _ | exact impl_table.mono _ _ _ | exact LeO.refl _ | exact LeO.none _ | refine LeO.ite ?_ ?_ | refine LeO.bind ?_ (fun _ => ?_))
   | exact LeO.none _
   | refine LeO.ite ?_ ?_
   | refine LeO.bind ?_ (fun _ => ?_)
theorem impl_halved.mono : ∀ a0 a1 k, LeO (impl_halved.f k a0 a1) (impl_halved.f (k + 1) a0 a1) := by
 intro a0 a1 k
 have ih0 := impl_halved.mono_l k
 unfold impl_halved.f
 repeat' first
   | (with_reducible first | exact ih0 _ _ _ _ | exact impl_FrobeniusOf.mono _ _ | exact impl_table.mono _ _ _ | exact LeO.refl _ | exact LeO.none _ | refine LeO.ite ?_ ?_ | refine LeO.bind ?_ (fun _ => ?_))
   | exact LeO.none _
   | refine LeO.ite ?_ ?_
   | refine LeO.bind ?_ (fun _ => ?_)
set_option maxHeartbeats 8000000 in
set_option maxRecDepth 100000 in
theorem impl_halved.calls (k : Nat) (A0_0 : Option Addr) (c0_0 : Nat) (l0_0 : List Int) (a1 : Int) (r : Bool) (w : World) (hr0_0 : Kd.C (Kd.int .i64) w A0_0 l0_0.length l0_0) (hc0_0 : l0_0.length ≤ c0_0) (h : impl_halved.f k l0_0 a1 = some r) :
  Calls Try.prog 145 #[.agg #[.slice A0_0 l0_0.length c0_0], .int .i64 a1] w fun e w' => e = .returned (.bool r) ∧ Below w.heap.size w w' := by
 have hu40 := Try.underlying40
 have HR0_0 := Aside0.mk hr0_0
 have HC0_0 := Aside0.mk hc0_0
 clear hr0_0 hc0_0
 have HB := Aside0.mk (Below.refl w.heap.size w)
 have H : ((impl_FrobeniusOf.f k l0_0).bind fun t511 => ((impl_table.f k l0_0 200).bind fun t512 => (impl_halved.l0 k a1 t511 t512 0))) = some r := h
 clear h
 obtain ⟨t511, A3, H⟩ := zb H
 obtain ⟨t512, A4, H⟩ := zb H
 have H' := Aside0.mk H
 clear H
 go_enter Try.func145, Try.ntmps145
 go_wp2_with (first | ((with_reducible refine gate_dst (N := 2) rfl ?_); refine box_event ?hg (N := 2) ?hd (cs := #[.slice A0_0 l0_0.length c0_0]) (t := 40) ?hr ?_; (case hd => rfl); (case hg => rfl); (case hr => first | (go_simp; done) | (go_simp; rfl)); intro gb510 hg w5 hbox hb; have n0_ := Aside0.mk (below_step (zB HB.out) hb); have n1_ := Aside0.mk (hbox); have n2_ := Aside0.mk ((by rw [hg]; exact (zS HB.out) : w.heap.size ≤ gb510)); have n3_ := Aside0.mk ((by rw [hg]; exact (zS HB.out) : w.heap.size ≤ gb510)); clear HB; have HB := n0_; have BK510 := n1_; have GW510 := n2_; have GE510 := n3_; clear n0_ n1_ n2_ n3_; clear hb hbox hg; have hcz6_0 : w5.cell? ⟨gb510, 0, none⟩ = some (.slice A0_0 l0_0.length c0_0) := (blk_cell BK510.out 0).trans rfl; have hfz6_0 := blk_frozen BK510.out 0) | (go_at_call 48; (with_reducible refine (impl_FrobeniusOf.calls k _ _ l0_0 t511 _ ?side1 ?side2 A3.out).mono ?_); (case side1 => exact zC (Kd.C_below HR0_0.out HB.out)); (case side2 => exact HC0_0.out); rintro e w7 ⟨rfl, hb⟩; have n0_ := Aside0.mk (blk_below (g := gb510) (o := .cells #[.slice A0_0 l0_0.length c0_0] 40 (0, 0)) (zk BK510.out) hb); have n1_ := Aside0.mk (below_step (zB HB.out) hb); clear BK510; clear HB; have BK510 := n0_; have HB := n1_; clear n0_ n1_; (try clear hb); (try clear hb2); (try clear hk); (try clear hi); have hcz8_0 : w7.cell? ⟨gb510, 0, none⟩ = some (.slice A0_0 l0_0.length c0_0) := (blk_cell BK510.out 0).trans rfl; have hfz8_0 := blk_frozen BK510.out 0) | (go_at_call 117; (with_reducible refine (impl_table.calls k _ _ l0_0 200 t512 _ ?side1 ?side2 A4.out).mono ?_); (case side1 => exact zC (Kd.C_below HR0_0.out HB.out)); (case side2 => exact HC0_0.out); rintro e w9 ⟨v513, rfl, ho0, hb⟩; have n0_ := Aside0.mk (Kd.R_lower ho0 (zS HB.out)); have n1_ := Aside0.mk (blk_below (g := gb510) (o := .cells #[.slice A0_0 l0_0.length c0_0] 40 (0, 0)) (zk BK510.out) hb); have n2_ := Aside0.mk (below_step (zB HB.out) hb); clear BK510; clear HB; have HO514 := n0_; have BK510 := n1_; have HB := n2_; clear n0_ n1_ n2_; (try clear hb); (try clear hb2); (try clear hk); (try clear hi); (try clear ho0)))
 repeat (go_quiet (first | ((with_reducible refine gate_dst (N := 2) rfl ?_); refine box_event ?hg (N := 2) ?hd (cs := #[.slice A0_0 l0_0.length c0_0]) (t := 40) ?hr ?_; (case hd => rfl); (case hg => rfl); (case hr => first | (go_simp; done) | (go_simp; rfl)); intro gb510 hg w5 hbox hb; have n0_ := Aside0.mk (below_step (zB HB.out) hb); have n1_ := Aside0.mk (hbox); have n2_ := Aside0.mk ((by rw [hg]; exact (zS HB.out) : w.heap.size ≤ gb510)); have n3_ := Aside0.mk ((by rw [hg]; exact (zS HB.out) : w.heap.size ≤ gb510)); clear HB; have HB := n0_; have BK510 := n1_; have GW510 := n2_; have GE510 := n3_; clear n0_ n1_ n2_ n3_; clear hb hbox hg; have hcz6_0 : w5.cell? ⟨gb510, 0, none⟩ = some (.slice A0_0 l0_0.length c0_0) := (blk_cell BK510.out 0).trans rfl; have hfz6_0 := blk_frozen BK510.out 0) | (go_at_call 48; (with_reducible refine (impl_FrobeniusOf.calls k _ _ l0_0 t511 _ ?side1 ?side2 A3.out).mono ?_); (case side1 => exact zC (Kd.C_below HR0_0.out HB.out)); (case side2 => exact HC0_0.out); rintro e w7 ⟨rfl, hb⟩; have n0_ := Aside0.mk (blk_below (g := gb510) (o := .cells #[.slice A0_0 l0_0.length c0_0] 40 (0, 0)) (zk BK510.out) hb); have n1_ := Aside0.mk (below_step (zB HB.out) hb); clear BK510; clear HB; have BK510 := n0_; have HB := n1_; clear n0_ n1_; (try clear hb); (try clear hb2); (try clear hk); (try clear hi); have hcz8_0 : w7.cell? ⟨gb510, 0, none⟩ = some (.slice A0_0 l0_0.length c0_0) := (blk_cell BK510.out 0).trans rfl; have hfz8_0 := blk_frozen BK510.out 0) | (go_at_call 117; (with_reducible refine (impl_table.calls k _ _ l0_0 200 t512 _ ?side1 ?side2 A4.out).mono ?_); (case side1 => exact zC (Kd.C_below HR0_0.out HB.out)); (case side2 => exact HC0_0.out); rintro e w9 ⟨v513, rfl, ho0, hb⟩; have n0_ := Aside0.mk (Kd.R_lower ho0 (zS HB.out)); have n1_ := Aside0.mk (blk_below (g := gb510) (o := .cells #[.slice A0_0 l0_0.length c0_0] 40 (0, 0)) (zk BK510.out) hb); have n2_ := Aside0.mk (below_step (zB HB.out) hb); clear BK510; clear HB; have HO514 := n0_; have BK510 := n1_; have HB := n2_; clear n0_ n1_ n2_; (try clear hb); (try clear hb2); (try clear hk); (try clear hi); (try clear ho0))); try go_wp2_with (first | ((with_reducible refine gate_dst (N := 2) rfl ?_); refine box_event ?hg (N := 2) ?hd (cs := #[.slice A0_0 l0_0.length c0_0]) (t := 40) ?hr ?_; (case hd => rfl); (case hg => rfl); (case hr => first | (go_simp; done) | (go_simp; rfl)); intro gb510 hg w5 hbox hb; have n0_ := Aside0.mk (below_step (zB HB.out) hb); have n1_ := Aside0.mk (hbox); have n2_ := Aside0.mk ((by rw [hg]; exact (zS HB.out) : w.heap.size ≤ gb510)); have n3_ := Aside0.mk ((by rw [hg]; exact (zS HB.out) : w.heap.size ≤ gb510)); clear HB; have HB := n0_; have BK510 := n1_; have GW510 := n2_; have GE510 := n3_; clear n0_ n1_ n2_ n3_; clear hb hbox hg; have hcz6_0 : w5.cell? ⟨gb510, 0, none⟩ = some (.slice A0_0 l0_0.length c0_0) := (blk_cell BK510.out 0).trans rfl; have hfz6_0 := blk_frozen BK510.out 0) | (go_at_call 48; (with_reducible refine (impl_FrobeniusOf.calls k _ _ l0_0 t511 _ ?side1 ?side2 A3.out).mono ?_); (case side1 => exact zC (Kd.C_below HR0_0.out HB.out)); (case side2 => exact HC0_0.out); rintro e w7 ⟨rfl, hb⟩; have n0_ := Aside0.mk (blk_below (g := gb510) (o := .cells #[.slice A0_0 l0_0.length c0_0] 40 (0, 0)) (zk BK510.out) hb); have n1_ := Aside0.mk (below_step (zB HB.out) hb); clear BK510; clear HB; have BK510 := n0_; have HB := n1_; clear n0_ n1_; (try clear hb); (try clear hb2); (try clear hk); (try clear hi); have hcz8_0 : w7.cell? ⟨gb510, 0, none⟩ = some (.slice A0_0 l0_0.length c0_0) := (blk_cell BK510.out 0).trans rfl; have hfz8_0 := blk_frozen BK510.out 0) | (go_at_call 117; (with_reducible refine (impl_table.calls k _ _ l0_0 200 t512 _ ?side1 ?side2 A4.out).mono ?_); (case side1 => exact zC (Kd.C_below HR0_0.out HB.out)); (case side2 => exact HC0_0.out); rintro e w9 ⟨v513, rfl, ho0, hb⟩; have n0_ := Aside0.mk (Kd.R_lower ho0 (zS HB.out)); have n1_ := Aside0.mk (blk_below (g := gb510) (o := .cells #[.slice A0_0 l0_0.length c0_0] 40 (0, 0)) (zk BK510.out) hb); have n2_ := Aside0.mk (below_step (zB HB.out) hb); clear BK510; clear HB; have HO514 := n0_; have BK510 := n1_; have HB := n2_; clear n0_ n1_ n2_; (try clear hb); (try clear hb2); (try clear hk); (try clear hi); (try clear ho0))))
 go_loopg [7] k (fun kq v7 w' => ∃ (x7_1 : Int), v7 = .int .i64 x7_1 ∧ Aside0 (impl_halved.l0 kq a1 t511 t512 x7_1 = some r) ∧ Aside0 (kq ≤ k) ∧ Aside0 (Kd.R Kd.bool 4 w' w.heap.size (fun _ => True) v513 t512) ∧ Aside0 (w'.heap[gb510]? = some (.cells #[(.slice A0_0 l0_0.length c0_0)] 40 (0, 0))) ∧ Aside0 (Below w.heap.size w w'))
 case atStart => exact ⟨(0), (by first | rfl | (simp; done) | (simp [*]; done)), H', ⟨Nat.le_refl _⟩, ⟨zR HO514.out⟩, ⟨zk BK510.out⟩, ⟨zB HB.out⟩⟩
 case round =>
  clear H'
  try clear c1
  try clear p2
  try clear hcz6_0
  try clear hcz8_0
  try clear hfz6_0
  try clear hfz8_0
  obtain ⟨x7_1, rfl, HA, HK1, HO_6, BK510, HB⟩ := hrel
  cases gk with
  | zero => exact absurd HA.out (by simp [impl_halved.l0])
  | succ k1 =>
   have H := HA.out
   clear HA
   simp only [impl_halved.l0] at H
   by_cases c10 : x7_1 ≤ t511
   ·rw [if_pos c10] at H
    have c10b0 : decide (x7_1 ≤ t511) = true := decide_eq_true c10
    clear c10
    by_cases c11 : x7_1 = a1
    ·rw [if_pos c11] at H
     have c11b0 : (x7_1 == a1) = true := beq_iff_eq.mpr c11
     have c11b1 : (x7_1 != a1) = false := bne_eq_false_iff_eq.mpr c11
     clear c11
     have H' := Aside0.mk H
     clear H
     go_wp2
     repeat (go_quiet (fail); try go_wp2)
     go_roundg k1
     case measure => have := HK1.out; omega
     case rel => exact ⟨(wrap64 (x7_1 + 1)), (by first | rfl | (simp; done) | (simp [*]; done)), H', ⟨by have := HK1.out; omega⟩, ⟨zR HO_6.out⟩, ⟨zk BK510.out⟩, ⟨zB HB.out⟩⟩
    ·rw [if_neg c11] at H
     have c11b0 : (x7_1 == a1) = false := beq_eq_false_iff_ne.mpr c11
     have c11b1 : (x7_1 != a1) = true := bne_iff_ne.mpr c11
     obtain ⟨c12, H⟩ := zi H
     have c12b0 : decide (0 ≤ x7_1) = true := decide_eq_true c12
     clear c12
     obtain ⟨c13, H⟩ := zi H
     have c13b0 : decide (x7_1 < (t512.length : Int)) = true := decide_eq_true c13
     clear c13
     obtain ⟨ji14, hji14⟩ : ∃ j_ : Int, (wrap64 (t511 - x7_1)) = j_ := ⟨_, rfl⟩
     replace H : (if 0 ≤ (ji14) then (if (ji14) < (t512.length : Int) then (if ((rdOf false t512 x7_1) == (rdOf false t512 (ji14))) = true then (some false) else (impl_halved.l0 k1 a1 t511 t512 (wrap64 (x7_1 + 1)))) else (none)) else (none)) = some r := by first | (rw [hji14] at H; exact H) | (simp only [hji14] at H ⊢; exact H)
     have hji14w : (IntKind.i64.wrap (t511 - x7_1)) = ji14 := (i64_w _).trans hji14
     obtain ⟨c15, H⟩ := zi H
     have c15b0 : decide (0 ≤ (ji14)) = true := decide_eq_true c15
     clear c15
     obtain ⟨c16, H⟩ := zi H
     have c16b0 : decide ((ji14) < (t512.length : Int)) = true := decide_eq_true c16
     clear c16
     by_cases c17 : ((rdOf false t512 x7_1) == (rdOf false t512 (ji14))) = true
     ·rw [if_pos c17] at H
      have c17b0 : ((rdOf false t512 x7_1) == (rdOf false t512 (ji14))) = true := c17
      (try (have c17b1 : decide ((rdOf false t512 x7_1) = (rdOf false t512 (ji14))) = true := by simpa using c17))
      (try (have c17b2 : ((rdOf false t512 x7_1) == (rdOf false t512 (ji14))) = true := by simpa using c17))
      clear c17
      obtain rfl := Option.some.inj H
      obtain ⟨Ao18, co18, eo18⟩ := Kd.R_slice HO_6.out
      subst eo18
      have p515 : 0 ≤ (x7_1 : Int) := of_decide_eq_true (by assumption)
      have q515 : x7_1 < (t512.length : Int) := of_decide_eq_true (by assumption)
      obtain ⟨ad515, e515, hx515_0⟩ := Kd.at_bool (Kd.R_reads' HO_6.out).2.2 x7_1 p515 q515
      cases e515
      replace p515 := eq_true p515
      replace q515 := eq_true q515
      have p516 : 0 ≤ ((ji14) : Int) := of_decide_eq_true (by assumption)
      have q516 : (ji14) < (t512.length : Int) := of_decide_eq_true (by assumption)
      obtain ⟨ad516, e516, hx516_0⟩ := Kd.at_bool (Kd.R_reads' HO_6.out).2.2 (ji14) p516 q516
      obtain rfl : ad515 = ad516 := (by injection e516)
      replace p516 := eq_true p516
      replace q516 := eq_true q516
      go_wp2
      repeat (go_quiet (fail); try go_wp2)
      go_ret
      exact ⟨by first | rfl | (simp [errW_none, errW_some] <;> rfl) | (simp only [← hji14]; first | rfl | (simp [errW_none, errW_some] <;> rfl)) | (simp [*, errW_none, errW_some] <;> rfl), zB HB.out⟩
     ·rw [if_neg c17] at H
      have c17b0 : ((rdOf false t512 x7_1) == (rdOf false t512 (ji14))) = false := by simpa using c17
      (try (have c17b1 : decide ((rdOf false t512 x7_1) = (rdOf false t512 (ji14))) = false := by simpa using c17))
      (try (have c17b2 : ((rdOf false t512 x7_1) == (rdOf false t512 (ji14))) = false := by simpa using c17))
      (try (have c17b3 : ¬ ((rdOf false t512 x7_1) = (rdOf false t512 (ji14))) := by simpa using c17))
      clear c17
      have H' := Aside0.mk H
      clear H
      obtain ⟨Ao19, co19, eo19⟩ := Kd.R_slice HO_6.out
      subst eo19
      have p515 : 0 ≤ (x7_1 : Int) := of_decide_eq_true (by assumption)
      have q515 : x7_1 < (t512.length : Int) := of_decide_eq_true (by assumption)
      obtain ⟨ad515, e515, hx515_0⟩ := Kd.at_bool (Kd.R_reads' HO_6.out).2.2 x7_1 p515 q515
      cases e515
      replace p515 := eq_true p515
      replace q515 := eq_true q515
      have p516 : 0 ≤ ((ji14) : Int) := of_decide_eq_true (by assumption)
      have q516 : (ji14) < (t512.length : Int) := of_decide_eq_true (by assumption)
      obtain ⟨ad516, e516, hx516_0⟩ := Kd.at_bool (Kd.R_reads' HO_6.out).2.2 (ji14) p516 q516
      obtain rfl : ad515 = ad516 := (by injection e516)
      replace p516 := eq_true p516
      replace q516 := eq_true q516
      go_wp2
      repeat (go_quiet (fail); try go_wp2)
      go_roundg k1
      case measure => have := HK1.out; omega
      case rel => exact ⟨(wrap64 (x7_1 + 1)), (by first | rfl | (simp; done) | (simp [*]; done)), H', ⟨by have := HK1.out; omega⟩, ⟨zR HO_6.out⟩, ⟨zk BK510.out⟩, ⟨zB HB.out⟩⟩
   ·rw [if_neg c10] at H
    have c10b0 : decide (x7_1 ≤ t511) = false := decide_eq_false c10
    clear c10
    obtain rfl := Option.some.inj H
    go_wp2
    repeat (go_quiet (fail); try go_wp2)
    go_ret
    exact ⟨by first | rfl | (simp [errW_none, errW_some] <;> rfl) | (simp [*, errW_none, errW_some] <;> rfl), zB HB.out⟩

/-! ### impl_IsSymmetric: function 93 -/
def impl_IsSymmetric.f (k : Nat) (l0_0 : List Int) : Option (Bool) := (impl_IsSemigroup.f k l0_0).bind fun t518 => (if t518 = true then ((impl_halved.f k l0_0 (-1)).bind fun t519 => (some t519)) else (some false))
theorem impl_IsSymmetric.mono : ∀ a0 k, LeO (impl_IsSymmetric.f k a0) (impl_IsSymmetric.f (k + 1) a0) := by
 intro a0 k
 unfold impl_IsSymmetric.f
 repeat' first
   | (with_reducible first | exact impl_IsSemigroup.mono _ _ | exact impl_halved.mono _ _ _ | exact LeO.refl _ | exact LeO.none _ | refine LeO.ite ?_ ?_ | refine LeO.bind ?_ (fun _ => ?_))
   | exact LeO.none _
   | refine LeO.ite ?_ ?_
   | refine LeO.bind ?_ (fun _ => ?_)
set_option maxHeartbeats 8000000 in
set_option maxRecDepth 100000 in
theorem impl_IsSymmetric.calls (k : Nat) (A0_0 : Option Addr) (c0_0 : Nat) (l0_0 : List Int) (r : Bool) (w : World) (hr0_0 : Kd.C (Kd.int .i64) w A0_0 l0_0.length l0_0) (hc0_0 : l0_0.length ≤ c0_0) (h : impl_IsSymmetric.f k l0_0 = some r) :
  Calls Try.prog 93 #[.agg #[.slice A0_0 l0_0.length c0_0]] w fun e w' => e = .returned (.bool r) ∧ Below w.heap.size w w' := by
 have hu40 := Try.underlying40
 have HR0_0 := Aside0.mk hr0_0
 have HC0_0 := Aside0.mk hc0_0
 clear hr0_0 hc0_0
 have HB := Aside0.mk (Below.refl w.heap.size w)
 have H : ((impl_IsSemigroup.f k l0_0).bind fun t518 => (if t518 = true then ((impl_halved.f k l0_0 (-1)).bind fun t519 => (some t519)) else (some false))) = some r := h
 clear h
 obtain ⟨t518, A2, H⟩ := zb H
 by_cases c3 : t518 = true
 ·subst c3
  rw [zT] at H
  obtain ⟨t519, A4, H⟩ := zb H
  obtain rfl := Option.some.inj H
  go_enter Try.func93, Try.ntmps93
  go_wp2_with (first | ((with_reducible refine gate_dst (N := 1) rfl ?_); refine box_event ?hg (N := 1) ?hd (cs := #[.slice A0_0 l0_0.length c0_0]) (t := 40) ?hr ?_; (case hd => rfl); (case hg => rfl); (case hr => first | (go_simp; done) | (go_simp; rfl)); intro gb517 hg w5 hbox hb; have n0_ := Aside0.mk (below_step (zB HB.out) hb); have n1_ := Aside0.mk (hbox); have n2_ := Aside0.mk ((by rw [hg]; exact (zS HB.out) : w.heap.size ≤ gb517)); have n3_ := Aside0.mk ((by rw [hg]; exact (zS HB.out) : w.heap.size ≤ gb517)); clear HB; have HB := n0_; have BK517 := n1_; have GW517 := n2_; have GE517 := n3_; clear n0_ n1_ n2_ n3_; clear hb hbox hg; have hcz6_0 : w5.cell? ⟨gb517, 0, none⟩ = some (.slice A0_0 l0_0.length c0_0) := (blk_cell BK517.out 0).trans rfl; have hfz6_0 := blk_frozen BK517.out 0) | ((with_reducible refine gate_callee (f := 79) rfl ?_); refine goesL_ (some 4) rfl rfl Try.func79 (by kernel_rfl) rfl #[.agg #[.slice A0_0 l0_0.length c0_0]] rfl (by (try simp only [za, zc, zn]); first | done | rfl) ?_; (with_reducible refine (impl_IsSemigroup.calls k _ _ l0_0 true _ ?side1 ?side2 A2.out).mono ?_); (case side1 => exact zC (Kd.C_below HR0_0.out HB.out)); (case side2 => exact HC0_0.out); rintro e w7 ⟨rfl, hb⟩; refine ⟨_, rfl, ?_⟩; have n0_ := Aside0.mk (blk_below (g := gb517) (o := .cells #[.slice A0_0 l0_0.length c0_0] 40 (0, 0)) (zk BK517.out) hb); have n1_ := Aside0.mk (below_step (zB HB.out) hb); clear BK517; clear HB; have BK517 := n0_; have HB := n1_; clear n0_ n1_; (try clear hb); (try clear hb2); (try clear hk); (try clear hi); have hcz8_0 : w7.cell? ⟨gb517, 0, none⟩ = some (.slice A0_0 l0_0.length c0_0) := (blk_cell BK517.out 0).trans rfl; have hfz8_0 := blk_frozen BK517.out 0) | (go_at_call 145; (with_reducible refine (impl_halved.calls k _ _ l0_0 (-1) t519 _ ?side1 ?side2 A4.out).mono ?_); (case side1 => exact zC (Kd.C_below HR0_0.out HB.out)); (case side2 => exact HC0_0.out); rintro e w9 ⟨rfl, hb⟩; have n0_ := Aside0.mk (blk_below (g := gb517) (o := .cells #[.slice A0_0 l0_0.length c0_0] 40 (0, 0)) (zk BK517.out) hb); have n1_ := Aside0.mk (below_step (zB HB.out) hb); clear BK517; clear HB; have BK517 := n0_; have HB := n1_; clear n0_ n1_; (try clear hb); (try clear hb2); (try clear hk); (try clear hi)))
  go_ret
  exact ⟨by first | rfl | (simp [errW_none, errW_some] <;> rfl) | (simp [*, errW_none, errW_some] <;> rfl), zB HB.out⟩
 ·replace c3 := Bool.eq_false_iff.mpr c3
  subst c3
  rw [zF] at H
  obtain rfl := Option.some.inj H
  go_enter Try.func93, Try.ntmps93
  go_wp2_with (first | ((with_reducible refine gate_dst (N := 1) rfl ?_); refine box_event ?hg (N := 1) ?hd (cs := #[.slice A0_0 l0_0.length c0_0]) (t := 40) ?hr ?_; (case hd => rfl); (case hg => rfl); (case hr => first | (go_simp; done) | (go_simp; rfl)); intro gb517 hg w10 hbox hb; have n0_ := Aside0.mk (below_step (zB HB.out) hb); have n1_ := Aside0.mk (hbox); have n2_ := Aside0.mk ((by rw [hg]; exact (zS HB.out) : w.heap.size ≤ gb517)); have n3_ := Aside0.mk ((by rw [hg]; exact (zS HB.out) : w.heap.size ≤ gb517)); clear HB; have HB := n0_; have BK517 := n1_; have GW517 := n2_; have GE517 := n3_; clear n0_ n1_ n2_ n3_; clear hb hbox hg; have hcz11_0 : w10.cell? ⟨gb517, 0, none⟩ = some (.slice A0_0 l0_0.length c0_0) := (blk_cell BK517.out 0).trans rfl; have hfz11_0 := blk_frozen BK517.out 0) | ((with_reducible refine gate_callee (f := 79) rfl ?_); refine goesL_ (some 4) rfl rfl Try.func79 (by kernel_rfl) rfl #[.agg #[.slice A0_0 l0_0.length c0_0]] rfl (by (try simp only [za, zc, zn]); first | done | rfl) ?_; (with_reducible refine (impl_IsSemigroup.calls k _ _ l0_0 false _ ?side1 ?side2 A2.out).mono ?_); (case side1 => exact zC (Kd.C_below HR0_0.out HB.out)); (case side2 => exact HC0_0.out); rintro e w12 ⟨rfl, hb⟩; refine ⟨_, rfl, ?_⟩; have n0_ := Aside0.mk (blk_below (g := gb517) (o := .cells #[.slice A0_0 l0_0.length c0_0] 40 (0, 0)) (zk BK517.out) hb); have n1_ := Aside0.mk (below_step (zB HB.out) hb); clear BK517; clear HB; have BK517 := n0_; have HB := n1_; clear n0_ n1_; (try clear hb); (try clear hb2); (try clear hk); (try clear hi)))
  go_ret
  exact ⟨by first | rfl | (simp [errW_none, errW_some] <;> rfl) | (simp [*, errW_none, errW_some] <;> rfl), zB HB.out⟩

/-! ### impl_IsPseudoSymmetric: function 94 -/
def impl_IsPseudoSymmetric.f (k : Nat) (l0_0 : List Int) : Option (Bool) := (impl_FrobeniusOf.f k l0_0).bind fun t521 => ((impl_IsSemigroup.f k l0_0).bind fun t522 => (if t522 = true then (if t521 ≥ 0 then (if (Int.tmod t521 2) = 0 then ((impl_halved.f k l0_0 (wrap64 (Int.tdiv t521 2))).bind fun t523 => (some t523)) else (some false)) else (some false)) else (some false)))
theorem impl_IsPseudoSymmetric.mono : ∀ a0 k, LeO (impl_IsPseudoSymmetric.f k a0) (impl_IsPseudoSymmetric.f (k + 1) a0) := by
 intro a0 k
 unfold impl_IsPseudoSymmetric.f
 repeat' first
   | (with_reducible first | exact impl_FrobeniusOf.mono _ _ | exact impl_IsSemigroup.mono _ _ | exact impl_halved.mono _ _ _ | exact LeO.refl _ | exact LeO.none _ | refine LeO.ite ?_ ?_ | refine LeO.bind ?_ (fun _ => ?_))
   | exact LeO.none _
   | refine LeO.ite ?_ ?_
   | refine LeO.bind ?_ (fun _ => ?_)
set_option maxHeartbeats 8000000 in
set_option maxRecDepth 100000 in
theorem impl_IsPseudoSymmetric.calls (k : Nat) (A0_0 : Option Addr) (c0_0 : Nat) (l0_0 : List Int) (r : Bool) (w : World) (hr0_0 : Kd.C (Kd.int .i64) w A0_0 l0_0.length l0_0) (hc0_0 : l0_0.length ≤ c0_0) (h : impl_IsPseudoSymmetric.f k l0_0 = some r) :
  Calls Try.prog 94 #[.agg #[.slice A0_0 l0_0.length c0_0]] w fun e w' => e = .returned (.bool r) ∧ Below w.heap.size w w' := by
 have hu40 := Try.underlying40
 have HR0_0 := Aside0.mk hr0_0
 have HC0_0 := Aside0.mk hc0_0
 clear hr0_0 hc0_0
 have HB := Aside0.mk (Below.refl w.heap.size w)
 have H : ((impl_FrobeniusOf.f k l0_0).bind fun t521 => ((impl_IsSemigroup.f k l0_0).bind fun t522 => (if t522 = true then (if t521 ≥ 0 then (if (Int.tmod t521 2) = 0 then ((impl_halved.f k l0_0 (wrap64 (Int.tdiv t521 2))).bind fun t523 => (some t523)) else (some false)) else (some false)) else (some false)))) = some r := h
 clear h
 obtain ⟨t521, A2, H⟩ := zb H
 obtain ⟨t522, A3, H⟩ := zb H
 by_cases c4 : t522 = true
 ·subst c4
  rw [zT] at H
  by_cases c5 : t521 ≥ 0
  ·rw [if_pos c5] at H
   have c5b0 : decide (0 ≤ t521) = true := decide_eq_true c5
   clear c5
   by_cases c6 : (Int.tmod t521 2) = 0
   ·rw [if_pos c6] at H
    have c6b0 : ((Int.tmod t521 2) == 0) = true := beq_iff_eq.mpr c6
    have c6b1 : ((Int.tmod t521 2) != 0) = false := bne_eq_false_iff_eq.mpr c6
    clear c6
    obtain ⟨t523, A7, H⟩ := zb H
    obtain rfl := Option.some.inj H
    go_enter Try.func94, Try.ntmps94
    go_wp2_with (first | ((with_reducible refine gate_dst (N := 1) rfl ?_); refine box_event ?hg (N := 1) ?hd (cs := #[.slice A0_0 l0_0.length c0_0]) (t := 40) ?hr ?_; (case hd => rfl); (case hg => rfl); (case hr => first | (go_simp; done) | (go_simp; rfl)); intro gb520 hg w8 hbox hb; have n0_ := Aside0.mk (below_step (zB HB.out) hb); have n1_ := Aside0.mk (hbox); have n2_ := Aside0.mk ((by rw [hg]; exact (zS HB.out) : w.heap.size ≤ gb520)); have n3_ := Aside0.mk ((by rw [hg]; exact (zS HB.out) : w.heap.size ≤ gb520)); clear HB; have HB := n0_; have BK520 := n1_; have GW520 := n2_; have GE520 := n3_; clear n0_ n1_ n2_ n3_; clear hb hbox hg; have hcz9_0 : w8.cell? ⟨gb520, 0, none⟩ = some (.slice A0_0 l0_0.length c0_0) := (blk_cell BK520.out 0).trans rfl; have hfz9_0 := blk_frozen BK520.out 0) | ((with_reducible refine gate_callee (f := 48) rfl ?_); refine goesL_ (some 5) rfl rfl Try.func48 (by kernel_rfl) rfl #[.agg #[.slice A0_0 l0_0.length c0_0]] rfl (by (try simp only [za, zc, zn]); first | done | rfl) ?_; (with_reducible refine (impl_FrobeniusOf.calls k _ _ l0_0 t521 _ ?side1 ?side2 A2.out).mono ?_); (case side1 => exact zC (Kd.C_below HR0_0.out HB.out)); (case side2 => exact HC0_0.out); rintro e w10 ⟨rfl, hb⟩; refine ⟨_, rfl, ?_⟩; have n0_ := Aside0.mk (blk_below (g := gb520) (o := .cells #[.slice A0_0 l0_0.length c0_0] 40 (0, 0)) (zk BK520.out) hb); have n1_ := Aside0.mk (below_step (zB HB.out) hb); clear BK520; clear HB; have BK520 := n0_; have HB := n1_; clear n0_ n1_; (try clear hb); (try clear hb2); (try clear hk); (try clear hi); have hcz11_0 : w10.cell? ⟨gb520, 0, none⟩ = some (.slice A0_0 l0_0.length c0_0) := (blk_cell BK520.out 0).trans rfl; have hfz11_0 := blk_frozen BK520.out 0) | ((with_reducible refine gate_callee (f := 79) rfl ?_); refine goesL_ (some 7) rfl rfl Try.func79 (by kernel_rfl) rfl #[.agg #[.slice A0_0 l0_0.length c0_0]] rfl (by (try simp only [za, zc, zn]); first | done | rfl) ?_; (with_reducible refine (impl_IsSemigroup.calls k _ _ l0_0 true _ ?side1 ?side2 A3.out).mono ?_); (case side1 => exact zC (Kd.C_below HR0_0.out HB.out)); (case side2 => exact HC0_0.out); rintro e w12 ⟨rfl, hb⟩; refine ⟨_, rfl, ?_⟩; have n0_ := Aside0.mk (blk_below (g := gb520) (o := .cells #[.slice A0_0 l0_0.length c0_0] 40 (0, 0)) (zk BK520.out) hb); have n1_ := Aside0.mk (below_step (zB HB.out) hb); clear BK520; clear HB; have BK520 := n0_; have HB := n1_; clear n0_ n1_; (try clear hb); (try clear hb2); (try clear hk); (try clear hi); have hcz13_0 : w12.cell? ⟨gb520, 0, none⟩ = some (.slice A0_0 l0_0.length c0_0) := (blk_cell BK520.out 0).trans rfl; have hfz13_0 := blk_frozen BK520.out 0) | (go_at_call 145; (with_reducible refine (impl_halved.calls k _ _ l0_0 (wrap64 (Int.tdiv t521 2)) t523 _ ?side1 ?side2 A7.out).mono ?_); (case side1 => exact zC (Kd.C_below HR0_0.out HB.out)); (case side2 => exact HC0_0.out); rintro e w14 ⟨rfl, hb⟩; have n0_ := Aside0.mk (blk_below (g := gb520) (o := .cells #[.slice A0_0 l0_0.length c0_0] 40 (0, 0)) (zk BK520.out) hb); have n1_ := Aside0.mk (below_step (zB HB.out) hb); clear BK520; clear HB; have BK520 := n0_; have HB := n1_; clear n0_ n1_; (try clear hb); (try clear hb2); (try clear hk); (try clear hi)))
    go_ret
    exact ⟨by first | rfl | (simp [errW_none, errW_some] <;> rfl) | (simp [*, errW_none, errW_some] <;> rfl), zB HB.out⟩
   ·rw [if_neg c6] at H
    have c6b0 : ((Int.tmod t521 2) == 0) = false := beq_eq_false_iff_ne.mpr c6
    have c6b1 : ((Int.tmod t521 2) != 0) = true := bne_iff_ne.mpr c6
    obtain rfl := Option.some.inj H
    go_enter Try.func94, Try.ntmps94
    go_wp2_with (first | ((with_reducible refine gate_dst (N := 1) rfl ?_); refine box_event ?hg (N := 1) ?hd (cs := #[.slice A0_0 l0_0.length c0_0]) (t := 40) ?hr ?_; (case hd => rfl); (case hg => rfl); (case hr => first | (go_simp; done) | (go_simp; rfl)); intro gb520 hg w15 hbox hb; have n0_ := Aside0.mk (below_step (zB HB.out) hb); have n1_ := Aside0.mk (hbox); have n2_ := Aside0.mk ((by rw [hg]; exact (zS HB.out) : w.heap.size ≤ gb520)); have n3_ := Aside0.mk ((by rw [hg]; exact (zS HB.out) : w.heap.size ≤ gb520)); clear HB; have HB := n0_; have BK520 := n1_; have GW520 := n2_; have GE520 := n3_; clear n0_ n1_ n2_ n3_; clear hb hbox hg; have hcz16_0 : w15.cell? ⟨gb520, 0, none⟩ = some (.slice A0_0 l0_0.length c0_0) := (blk_cell BK520.out 0).trans rfl; have hfz16_0 := blk_frozen BK520.out 0) | ((with_reducible refine gate_callee (f := 48) rfl ?_); refine goesL_ (some 5) rfl rfl Try.func48 (by kernel_rfl) rfl #[.agg #[.slice A0_0 l0_0.length c0_0]] rfl (by (try simp only [za, zc, zn]); first | done | rfl) ?_; (with_reducible refine (impl_FrobeniusOf.calls k _ _ l0_0 t521 _ ?side1 ?side2 A2.out).mono ?_); (case side1 => exact zC (Kd.C_below HR0_0.out HB.out)); (case side2 => exact HC0_0.out); rintro e w17 ⟨rfl, hb⟩; refine ⟨_, rfl, ?_⟩; have n0_ := Aside0.mk (blk_below (g := gb520) (o := .cells #[.slice A0_0 l0_0.length c0_0] 40 (0, 0)) (zk BK520.out) hb); have n1_ := Aside0.mk (below_step (zB HB.out) hb); clear BK520; clear HB; have BK520 := n0_; have HB := n1_; clear n0_ n1_; (try clear hb); (try clear hb2); (try clear hk); (try clear hi); have hcz18_0 : w17.cell? ⟨gb520, 0, none⟩ = some (.slice A0_0 l0_0.length c0_0) := (blk_cell BK520.out 0).trans rfl; have hfz18_0 := blk_frozen BK520.out 0) | ((with_reducible refine gate_callee (f := 79) rfl ?_); refine goesL_ (some 7) rfl rfl Try.func79 (by kernel_rfl) rfl #[.agg #[.slice A0_0 l0_0.length c0_0]] rfl (by (try simp only [za, zc, zn]); first | done | rfl) ?_; (with_reducible refine (impl_IsSemigroup.calls k _ _ l0_0 true _ ?side1 ?side2 A3.out).mono ?_); (case side1 => exact zC (Kd.C_below HR0_0.out HB.out)); (case side2 => exact HC0_0.out); rintro e w19 ⟨rfl, hb⟩; refine ⟨_, rfl, ?_⟩; have n0_ := Aside0.mk (blk_below (g := gb520) (o := .cells #[.slice A0_0 l0_0.length c0_0] 40 (0, 0)) (zk BK520.out) hb); have n1_ := Aside0.mk (below_step (zB HB.out) hb); clear BK520; clear HB; have BK520 := n0_; have HB := n1_; clear n0_ n1_; (try clear hb); (try clear hb2); (try clear hk); (try clear hi)))
    go_ret
    exact ⟨by first | rfl | (simp [errW_none, errW_some] <;> rfl) | (simp [*, errW_none, errW_some] <;> rfl), zB HB.out⟩
  ·rw [if_neg c5] at H
   have c5b0 : decide (0 ≤ t521) = false := decide_eq_false c5
   clear c5
   obtain rfl := Option.some.inj H
   go_enter Try.func94, Try.ntmps94
   go_wp2_with (first | ((with_reducible refine gate_dst (N := 1) rfl ?_); refine box_event ?hg (N := 1) ?hd (cs := #[.slice A0_0 l0_0.length c0_0]) (t := 40) ?hr ?_; (case hd => rfl); (case hg => rfl); (case hr => first | (go_simp; done) | (go_simp; rfl)); intro gb520 hg w20 hbox hb; have n0_ := Aside0.mk (below_step (zB HB.out) hb); have n1_ := Aside0.mk (hbox); have n2_ := Aside0.mk ((by rw [hg]; exact (zS HB.out) : w.heap.size ≤ gb520)); have n3_ := Aside0.mk ((by rw [hg]; exact (zS HB.out) : w.heap.size ≤ gb520)); clear HB; have HB := n0_; have BK520 := n1_; have GW520 := n2_; have GE520 := n3_; clear n0_ n1_ n2_ n3_; clear hb hbox hg; have hcz21_0 : w20.cell? ⟨gb520, 0, none⟩ = some (.slice A0_0 l0_0.length c0_0) := (blk_cell BK520.out 0).trans rfl; have hfz21_0 := blk_frozen BK520.out 0) | ((with_reducible refine gate_callee (f := 48) rfl ?_); refine goesL_ (some 5) rfl rfl Try.func48 (by kernel_rfl) rfl #[.agg #[.slice A0_0 l0_0.length c0_0]] rfl (by (try simp only [za, zc, zn]); first | done | rfl) ?_; (with_reducible refine (impl_FrobeniusOf.calls k _ _ l0_0 t521 _ ?side1 ?side2 A2.out).mono ?_); (case side1 => exact zC (Kd.C_below HR0_0.out HB.out)); (case side2 => exact HC0_0.out); rintro e w22 ⟨rfl, hb⟩; refine ⟨_, rfl, ?_⟩; have n0_ := Aside0.mk (blk_below (g := gb520) (o := .cells #[.slice A0_0 l0_0.length c0_0] 40 (0, 0)) (zk BK520.out) hb); have n1_ := Aside0.mk (below_step (zB HB.out) hb); clear BK520; clear HB; have BK520 := n0_; have HB := n1_; clear n0_ n1_; (try clear hb); (try clear hb2); (try clear hk); (try clear hi); have hcz23_0 : w22.cell? ⟨gb520, 0, none⟩ = some (.slice A0_0 l0_0.length c0_0) := (blk_cell BK520.out 0).trans rfl; have hfz23_0 := blk_frozen BK520.out 0) | ((with_reducible refine gate_callee (f := 79) rfl ?_); refine goesL_ (some 7) rfl rfl Try.func79 (by kernel_rfl) rfl #[.agg #[.slice A0_0 l0_0.length c0_0]] rfl (by (try simp only [za, zc, zn]); first | done | rfl) ?_; (with_reducible refine (impl_IsSemigroup.calls k _ _ l0_0 true _ ?side1 ?side2 A3.out).mono ?_); (case side1 => exact zC (Kd.C_below HR0_0.out HB.out)); (case side2 => exact HC0_0.out); rintro e w24 ⟨rfl, hb⟩; refine ⟨_, rfl, ?_⟩; have n0_ := Aside0.mk (blk_below (g := gb520) (o := .cells #[.slice A0_0 l0_0.length c0_0] 40 (0, 0)) (zk BK520.out) hb); have n1_ := Aside0.mk (below_step (zB HB.out) hb); clear BK520; clear HB; have BK520 := n0_; have HB := n1_; clear n0_ n1_; (try clear hb); (try clear hb2); (try clear hk); (try clear hi)))
   go_ret
   exact ⟨by first | rfl | (simp [errW_none, errW_some] <;> rfl) | (simp [*, errW_none, errW_some] <;> rfl), zB HB.out⟩
 ·replace c4 := Bool.eq_false_iff.mpr c4
  subst c4
  rw [zF] at H
  obtain rfl := Option.some.inj H
  go_enter Try.func94, Try.ntmps94
  go_wp2_with (first | ((with_reducible refine gate_dst (N := 1) rfl ?_); refine box_event ?hg (N := 1) ?hd (cs := #[.slice A0_0 l0_0.length c0_0]) (t := 40) ?hr ?_; (case hd => rfl); (case hg => rfl); (case hr => first | (go_simp; done) | (go_simp; rfl)); intro gb520 hg w25 hbox hb; have n0_ := Aside0.mk (below_step (zB HB.out) hb); have n1_ := Aside0.mk (hbox); have n2_ := Aside0.mk ((by rw [hg]; exact (zS HB.out) : w.heap.size ≤ gb520)); have n3_ := Aside0.mk ((by rw [hg]; exact (zS HB.out) : w.heap.size ≤ gb520)); clear HB; have HB := n0_; have BK520 := n1_; have GW520 := n2_; have GE520 := n3_; clear n0_ n1_ n2_ n3_; clear hb hbox hg; have hcz26_0 : w25.cell? ⟨gb520, 0, none⟩ = some (.slice A0_0 l0_0.length c0_0) := (blk_cell BK520.out 0).trans rfl; have hfz26_0 := blk_frozen BK520.out 0) | ((with_reducible refine gate_callee (f := 48) rfl ?_); refine goesL_ (some 5) rfl rfl Try.func48 (by kernel_rfl) rfl #[.agg #[.slice A0_0 l0_0.length c0_0]] rfl (by (try simp only [za, zc, zn]); first | done | rfl) ?_; (with_reducible refine (impl_FrobeniusOf.calls k _ _ l0_0 t521 _ ?side1 ?side2 A2.out).mono ?_); (case side1 => exact zC (Kd.C_below HR0_0.out HB.out)); (case side2 => exact HC0_0.out); rintro e w27 ⟨rfl, hb⟩; refine ⟨_, rfl, ?_⟩; have n0_ := Aside0.mk (blk_below (g := gb520) (o := .cells #[.slice A0_0 l0_0.length c0_0] 40 (0, 0)) (zk BK520.out) hb); have n1_ := Aside0.mk (below_step (zB HB.out) hb); clear BK520; clear HB; have BK520 := n0_; have HB := n1_; clear n0_ n1_; (try clear hb); (try clear hb2); (try clear hk); (try clear hi); have hcz28_0 : w27.cell? ⟨gb520, 0, none⟩ = some (.slice A0_0 l0_0.length c0_0) := (blk_cell BK520.out 0).trans rfl; have hfz28_0 := blk_frozen BK520.out 0) | ((with_reducible refine gate_callee (f := 79) rfl ?_); refine goesL_ (some 7) rfl rfl Try.func79 (by kernel_rfl) rfl #[.agg #[.slice A0_0 l0_0.length c0_0]] rfl (by (try simp only [za, zc, zn]); first | done | rfl) ?_; (with_reducible refine (impl_IsSemigroup.calls k _ _ l0_0 false _ ?side1 ?side2 A3.out).mono ?_); (case side1 => exact zC (Kd.C_below HR0_0.out HB.out)); (case side2 => exact HC0_0.out); rintro e w29 ⟨rfl, hb⟩; refine ⟨_, rfl, ?_⟩; have n0_ := Aside0.mk (blk_below (g := gb520) (o := .cells #[.slice A0_0 l0_0.length c0_0] 40 (0, 0)) (zk BK520.out) hb); have n1_ := Aside0.mk (below_step (zB HB.out) hb); clear BK520; clear HB; have BK520 := n0_; have HB := n1_; clear n0_ n1_; (try clear hb); (try clear hb2); (try clear hk); (try clear hi)))
  go_ret
  exact ⟨by first | rfl | (simp [errW_none, errW_some] <;> rfl) | (simp [*, errW_none, errW_some] <;> rfl), zB HB.out⟩

/-! ### spec_PseudoFrobenius: function 95 -/
mutual
def spec_PseudoFrobenius.l0 : Nat → List Int → List Int → Int → List Int → Option (List Int)
 | 0, _, _, _, _ => none
 | k + 1, x3, x4, x5, x525000 => if x5 < (x4.length : Int) then (spec_PseudoFrobenius.l1 k x3 x4 x5 true 0 x525000) else (some x3)
def spec_PseudoFrobenius.l1 : Nat → List Int → List Int → Int → Bool → Int → List Int → Option (List Int)
 | 0, _, _, _, _, _, _ => none
 | k + 1, x3, x4, x5, x6, x7, x525000 => if x7 < (x525000.length : Int) then (if x6 = true then (if 0 ≤ x5 then (if x5 < (x4.length : Int) then (if 0 ≤ x7 then ((spec_HasNumber.f k x4 (wrap64 ((rd x4 x5) + (rd x525000 x7)))).bind fun t533 => (spec_PseudoFrobenius.l1 k x3 x4 x5 (!t533) (wrap64 (x7 + 1)) x525000)) else (none)) else (none)) else (none)) else (spec_PseudoFrobenius.l1 k x3 x4 x5 false (wrap64 (x7 + 1)) x525000)) else (if x6 = true then (if 0 ≤ x5 then (if x5 < (x4.length : Int) then (if x3.length < 17592186044416 then (spec_PseudoFrobenius.l0 k (x3 ++ [rd x4 x5]) x4 (wrap64 (x5 + 1)) x525000) else (none)) else (none)) else (none)) else (spec_PseudoFrobenius.l0 k x3 x4 (wrap64 (x5 + 1)) x525000))
end
def spec_PseudoFrobenius.f (k : Nat) (l0_0 : List Int) : Option (List Int) := (spec_Gaps.f k l0_0).bind fun t528 => (spec_PseudoFrobenius.l0 k (([] : List Int)) t528 0 l0_0)
theorem spec_PseudoFrobenius.mono_l : ∀ k, (∀ y0 y1 y2 y3, LeO (spec_PseudoFrobenius.l0 k y0 y1 y2 y3) (spec_PseudoFrobenius.l0 (k + 1) y0 y1 y2 y3)) ∧ (∀ y0 y1 y2 y3 y4 y5, LeO (spec_PseudoFrobenius.l1 k y0 y1 y2 y3 y4 y5) (spec_PseudoFrobenius.l1 (k + 1) y0 y1 y2 y3 y4 y5))
 | 0 => ⟨fun _ _ _ _ r h => by simp [spec_PseudoFrobenius.l0] at h, fun _ _ _ _ _ _ r h => by simp [spec_PseudoFrobenius.l1] at h⟩
 | k + 1 => by
  obtain ⟨ih0, ih1⟩ := spec_PseudoFrobenius.mono_l k
  refine ⟨?_, ?_⟩
  ·intro y0 y1 y2 y3
   unfold spec_PseudoFrobenius.l0
   repeat' first
   | (with_reducible first | exact ih0 _ _ _ _ | exact ih1 _ _ _ _ _ _ | exact spec_Gaps.mono _ _ | exact spec_HasNumber.mono _ _ _ | exact LeO.refl _ | exact LeO.none _ | refine LeO.ite ?_ ?_ | refine LeO.bind ?_ (fun _ => ?_))
   | exact LeO.none _
   | refine LeO.ite ?_ ?_
   | refine LeO.bind ?_ (fun _ => ?_)
  ·intro y0 y1 y2 y3 y4 y5
   unfold spec_PseudoFrobenius.l1
   repeat' first
   | (with_reducible first | exact ih0 _ _ _ _ | exact ih1 _ _ _ _ _ _ | exact spec_Gaps.mono _ _ | exact spec_HasNumber.mono _ _ _ | exact LeO.refl _ | exact LeO.none _ | refine LeO.ite ?_ ?_ | refine LeO.bind ?_ (fun _ => ?_))
   | exact LeO.none _
   | refine LeO.ite ?_ ?_
   | refine LeO.bind ?_ (fun _ => ?_)
theorem spec_PseudoFrobenius.mono : ∀ a0 k, LeO (spec_PseudoFrobenius.f k a0) (spec_PseudoFrobenius.f (k + 1) a0) := by
 intro a0 k
 obtain ⟨ih0, ih1⟩ := spec_PseudoFrobenius.mono_l k
 unfold spec_PseudoFrobenius.f
 repeat' first
   | (with_reducible first | exact ih0 _ _ _ _ | exact ih1 _ _ _ _ _ _ | exact spec_Gaps.mono _ _ | exact spec_HasNumber.mono _ _ _ | exact LeO.refl _ | exact LeO.none _ | refine LeO.ite ?_ ?_ | refine LeO.bind ?_ (fun _ => ?_))
   | exact LeO.none _
   | refine LeO.ite ?_ ?_
   | refine LeO.bind ?_ (fun _ => ?_)
set_option maxHeartbeats 8000000 in
set_option maxRecDepth 100000 in
theorem spec_PseudoFrobenius.calls (k : Nat) (A0_0 : Option Addr) (c0_0 : Nat) (l0_0 : List Int) (r : List Int) (w : World) (hr0_0 : Kd.C (Kd.int .i64) w A0_0 l0_0.length l0_0) (hc0_0 : l0_0.length ≤ c0_0) (h : spec_PseudoFrobenius.f k l0_0 = some r) :
  Calls Try.prog 95 #[.agg #[.slice A0_0 l0_0.length c0_0]] w fun e w' => ∃ v0_ : Value, e = .returned (v0_) ∧ Kd.R (Kd.int .i64) 3 w' w.heap.size (fun _ => True) v0_ r ∧ Below w.heap.size w w' := by
 have hu40 := Try.underlying40
 have HR0_0 := Aside0.mk hr0_0
 have HC0_0 := Aside0.mk hc0_0
 clear hr0_0 hc0_0
 have HB := Aside0.mk (Below.refl w.heap.size w)
 have H : ((spec_Gaps.f k l0_0).bind fun t528 => (spec_PseudoFrobenius.l0 k (([] : List Int)) t528 0 l0_0)) = some r := h
 clear h
 obtain ⟨y525, Ny525⟩ : ∃ y_ : List Int, Aside0 (y_ = (([] : List Int))) := ⟨_, ⟨rfl⟩⟩
 (try rw [Option.bind_some] at H)
 (try rw [← Ny525.out] at H)
 obtain ⟨t528, A2, H⟩ := zb H
 have H' := Aside0.mk H
 clear H
 go_enter Try.func95, Try.ntmps95
 go_wp2_with (first | ((with_reducible refine gate_dst (N := 1) rfl ?_); refine box_event ?hg (N := 1) ?hd (cs := #[.slice A0_0 l0_0.length c0_0]) (t := 40) ?hr ?_; (case hd => rfl); (case hg => rfl); (case hr => first | (go_simp; done) | (go_simp; rfl)); intro gb524 hg w3 hbox hb; have n0_ := Aside0.mk (below_step (zB HB.out) hb); have n1_ := Aside0.mk (hbox); have n2_ := Aside0.mk ((by rw [hg]; exact (zS HB.out) : w.heap.size ≤ gb524)); have n3_ := Aside0.mk ((by rw [hg]; exact (zS HB.out) : w.heap.size ≤ gb524)); clear HB; have HB := n0_; have BK524 := n1_; have GW524 := n2_; have GE524 := n3_; clear n0_ n1_ n2_ n3_; clear hb hbox hg) | ((with_reducible refine gate_dst (N := 8) rfl ?_); refine Kd.R_lit (Kd.int .i64) _ 3 ?hg (N := 8) ?hd (xs := ([] : List Int)) (inner := []) (ok := fun _ => True) (okp := fun _ => True) ?hr ?hp (fun _ hk => hk) trivial (Below.refl _ _) (Nat.le_refl _) (by simp) ?_; (case hd => rfl); (case hg => rfl); (case hr => first | (go_simp; done) | (go_simp; rfl)); (case hp => exact (Reps.none _ _)); intro v526 w4 ho5 hb hg_ hnew_; clear hg_ hnew_; (first | rw [← Ny525.out] at ho5 | (simp only [Int.reduceToNat] at ho5; rw [← Ny525.out] at ho5)); have n0_ := Aside0.mk (Kd.R_lower ho5 (zS HB.out)); have n1_ := Aside0.mk (blk_below (g := gb524) (o := .cells #[.slice A0_0 l0_0.length c0_0] 40 (0, 0)) (zk BK524.out) hb); have n2_ := Aside0.mk (below_step (zB HB.out) hb); clear BK524; clear HB; have HO527 := n0_; have BK524 := n1_; have HB := n2_; clear n0_ n1_ n2_; clear hb ho5; have hcz6_0 : w4.cell? ⟨gb524, 0, none⟩ = some (.slice A0_0 l0_0.length c0_0) := (blk_cell BK524.out 0).trans rfl; have hfz6_0 := blk_frozen BK524.out 0) | (go_at_call 44; (with_reducible refine (spec_Gaps.calls k _ _ l0_0 t528 _ ?side1 ?side2 A2.out).mono ?_); (case side1 => exact zC (Kd.C_below HR0_0.out HB.out)); (case side2 => exact HC0_0.out); rintro e w7 ⟨v529, rfl, ho0, hb⟩; have n0_ := Aside0.mk (Kd.R_elder' (zR HO527.out) (Kd.R_base ho0) hb); have n1_ := Aside0.mk (Kd.R_lower (Kd.R_new' ho0 (Kd.R_lt (zR HO527.out))) (zS HB.out)); have n2_ := Aside0.mk (blk_below (g := gb524) (o := .cells #[.slice A0_0 l0_0.length c0_0] 40 (0, 0)) (zk BK524.out) hb); have n3_ := Aside0.mk (below_step (zB HB.out) hb); clear HO527; clear BK524; clear HB; have HO527 := n0_; have HO530 := n1_; have BK524 := n2_; have HB := n3_; clear n0_ n1_ n2_ n3_; (try clear hb); (try clear hb2); (try clear hk); (try clear hi); (try clear ho0)))
 repeat (go_quiet (first | ((with_reducible refine gate_dst (N := 1) rfl ?_); refine box_event ?hg (N := 1) ?hd (cs := #[.slice A0_0 l0_0.length c0_0]) (t := 40) ?hr ?_; (case hd => rfl); (case hg => rfl); (case hr => first | (go_simp; done) | (go_simp; rfl)); intro gb524 hg w3 hbox hb; have n0_ := Aside0.mk (below_step (zB HB.out) hb); have n1_ := Aside0.mk (hbox); have n2_ := Aside0.mk ((by rw [hg]; exact (zS HB.out) : w.heap.size ≤ gb524)); have n3_ := Aside0.mk ((by rw [hg]; exact (zS HB.out) : w.heap.size ≤ gb524)); clear HB; have HB := n0_; have BK524 := n1_; have GW524 := n2_; have GE524 := n3_; clear n0_ n1_ n2_ n3_; clear hb hbox hg) | ((with_reducible refine gate_dst (N := 8) rfl ?_); refine Kd.R_lit (Kd.int .i64) _ 3 ?hg (N := 8) ?hd (xs := ([] : List Int)) (inner := []) (ok := fun _ => True) (okp := fun _ => True) ?hr ?hp (fun _ hk => hk) trivial (Below.refl _ _) (Nat.le_refl _) (by simp) ?_; (case hd => rfl); (case hg => rfl); (case hr => first | (go_simp; done) | (go_simp; rfl)); (case hp => exact (Reps.none _ _)); intro v526 w4 ho5 hb hg_ hnew_; clear hg_ hnew_; (first | rw [← Ny525.out] at ho5 | (simp only [Int.reduceToNat] at ho5; rw [← Ny525.out] at ho5)); have n0_ := Aside0.mk (Kd.R_lower ho5 (zS HB.out)); have n1_ := Aside0.mk (blk_below (g := gb524) (o := .cells #[.slice A0_0 l0_0.length c0_0] 40 (0, 0)) (zk BK524.out) hb); have n2_ := Aside0.mk (below_step (zB HB.out) hb); clear BK524; clear HB; have HO527 := n0_; have BK524 := n1_; have HB := n2_; clear n0_ n1_ n2_; clear hb ho5; have hcz6_0 : w4.cell? ⟨gb524, 0, none⟩ = some (.slice A0_0 l0_0.length c0_0) := (blk_cell BK524.out 0).trans rfl; have hfz6_0 := blk_frozen BK524.out 0) | (go_at_call 44; (with_reducible refine (spec_Gaps.calls k _ _ l0_0 t528 _ ?side1 ?side2 A2.out).mono ?_); (case side1 => exact zC (Kd.C_below HR0_0.out HB.out)); (case side2 => exact HC0_0.out); rintro e w7 ⟨v529, rfl, ho0, hb⟩; have n0_ := Aside0.mk (Kd.R_elder' (zR HO527.out) (Kd.R_base ho0) hb); have n1_ := Aside0.mk (Kd.R_lower (Kd.R_new' ho0 (Kd.R_lt (zR HO527.out))) (zS HB.out)); have n2_ := Aside0.mk (blk_below (g := gb524) (o := .cells #[.slice A0_0 l0_0.length c0_0] 40 (0, 0)) (zk BK524.out) hb); have n3_ := Aside0.mk (below_step (zB HB.out) hb); clear HO527; clear BK524; clear HB; have HO527 := n0_; have HO530 := n1_; have BK524 := n2_; have HB := n3_; clear n0_ n1_ n2_ n3_; (try clear hb); (try clear hb2); (try clear hk); (try clear hi); (try clear ho0))); try go_wp2_with (first | ((with_reducible refine gate_dst (N := 1) rfl ?_); refine box_event ?hg (N := 1) ?hd (cs := #[.slice A0_0 l0_0.length c0_0]) (t := 40) ?hr ?_; (case hd => rfl); (case hg => rfl); (case hr => first | (go_simp; done) | (go_simp; rfl)); intro gb524 hg w3 hbox hb; have n0_ := Aside0.mk (below_step (zB HB.out) hb); have n1_ := Aside0.mk (hbox); have n2_ := Aside0.mk ((by rw [hg]; exact (zS HB.out) : w.heap.size ≤ gb524)); have n3_ := Aside0.mk ((by rw [hg]; exact (zS HB.out) : w.heap.size ≤ gb524)); clear HB; have HB := n0_; have BK524 := n1_; have GW524 := n2_; have GE524 := n3_; clear n0_ n1_ n2_ n3_; clear hb hbox hg) | ((with_reducible refine gate_dst (N := 8) rfl ?_); refine Kd.R_lit (Kd.int .i64) _ 3 ?hg (N := 8) ?hd (xs := ([] : List Int)) (inner := []) (ok := fun _ => True) (okp := fun _ => True) ?hr ?hp (fun _ hk => hk) trivial (Below.refl _ _) (Nat.le_refl _) (by simp) ?_; (case hd => rfl); (case hg => rfl); (case hr => first | (go_simp; done) | (go_simp; rfl)); (case hp => exact (Reps.none _ _)); intro v526 w4 ho5 hb hg_ hnew_; clear hg_ hnew_; (first | rw [← Ny525.out] at ho5 | (simp only [Int.reduceToNat] at ho5; rw [← Ny525.out] at ho5)); have n0_ := Aside0.mk (Kd.R_lower ho5 (zS HB.out)); have n1_ := Aside0.mk (blk_below (g := gb524) (o := .cells #[.slice A0_0 l0_0.length c0_0] 40 (0, 0)) (zk BK524.out) hb); have n2_ := Aside0.mk (below_step (zB HB.out) hb); clear BK524; clear HB; have HO527 := n0_; have BK524 := n1_; have HB := n2_; clear n0_ n1_ n2_; clear hb ho5; have hcz6_0 : w4.cell? ⟨gb524, 0, none⟩ = some (.slice A0_0 l0_0.length c0_0) := (blk_cell BK524.out 0).trans rfl; have hfz6_0 := blk_frozen BK524.out 0) | (go_at_call 44; (with_reducible refine (spec_Gaps.calls k _ _ l0_0 t528 _ ?side1 ?side2 A2.out).mono ?_); (case side1 => exact zC (Kd.C_below HR0_0.out HB.out)); (case side2 => exact HC0_0.out); rintro e w7 ⟨v529, rfl, ho0, hb⟩; have n0_ := Aside0.mk (Kd.R_elder' (zR HO527.out) (Kd.R_base ho0) hb); have n1_ := Aside0.mk (Kd.R_lower (Kd.R_new' ho0 (Kd.R_lt (zR HO527.out))) (zS HB.out)); have n2_ := Aside0.mk (blk_below (g := gb524) (o := .cells #[.slice A0_0 l0_0.length c0_0] 40 (0, 0)) (zk BK524.out) hb); have n3_ := Aside0.mk (below_step (zB HB.out) hb); clear HO527; clear BK524; clear HB; have HO527 := n0_; have HO530 := n1_; have BK524 := n2_; have HB := n3_; clear n0_ n1_ n2_ n3_; (try clear hb); (try clear hb2); (try clear hk); (try clear hi); (try clear ho0))))
 go_loopg [3, 5] k (fun kq v3 v5 w' => ∃ (x3_1 : List Int) (x5_1 : Int), v5 = .int .i64 x5_1 ∧ Aside0 (spec_PseudoFrobenius.l0 kq x3_1 t528 x5_1 l0_0 = some r) ∧ Aside0 (kq ≤ k) ∧ Aside0 (Kd.R (Kd.int .i64) 3 w' w.heap.size (fun k_ => some k_ ≠ (v529 : Value).ownBlock) v3 x3_1) ∧ Aside0 (Kd.R (Kd.int .i64) 3 w' w.heap.size (fun k_ => some k_ ≠ (v3 : Value).ownBlock) v529 t528) ∧ Aside0 (w'.heap[gb524]? = some (.cells #[(.slice A0_0 l0_0.length c0_0)] 40 (0, 0))) ∧ Aside0 (Below w.heap.size w w'))
 case atStart => exact ⟨(y525), (0), (by first | rfl | (simp; done) | (simp [*]; done)), H', ⟨Nat.le_refl _⟩, ⟨zR (Kd.R_mono HO527.out (fun _ hk => hk.2))⟩, ⟨zR (Kd.R_mono HO530.out (fun _ hk => hk.2))⟩, ⟨zk BK524.out⟩, ⟨zB HB.out⟩⟩
 case round =>
  clear H'
  try clear p2
  try clear hcz6_0
  try clear hfz6_0
  obtain ⟨x3_1, x5_1, rfl, HA, HK1, HO_3, HO_4, BK524, HB⟩ := hrel
  cases gk with
  | zero => exact absurd HA.out (by simp [spec_PseudoFrobenius.l0])
  | succ k1 =>
   have H := HA.out
   clear HA
   simp only [spec_PseudoFrobenius.l0] at H
   by_cases c8 : x5_1 < (t528.length : Int)
   ·rw [if_pos c8] at H
    have c8b0 : decide (x5_1 < (t528.length : Int)) = true := decide_eq_true c8
    clear c8
    have H' := Aside0.mk H
    clear H
    obtain ⟨Ao9, co9, eo9⟩ := Kd.R_slice HO_4.out
    subst eo9
    go_wp2
    repeat (go_quiet (fail); try go_wp2)
    go_loopg [6, 7] k1 (fun kq v6 v7 w' => ∃ (x6_2 : Bool) (x7_2 : Int), v6 = .bool x6_2 ∧ v7 = .int .i64 x7_2 ∧ Aside0 (spec_PseudoFrobenius.l1 kq x3_1 t528 x5_1 x6_2 x7_2 l0_0 = some r) ∧ Aside0 (kq ≤ k1) ∧ Aside0 (Kd.R (Kd.int .i64) 3 w' w.heap.size (fun k_ => some k_ ≠ ((.slice Ao9 t528.length co9) : Value).ownBlock) u3 x3_1) ∧ Aside0 (Kd.R (Kd.int .i64) 3 w' w.heap.size (fun k_ => some k_ ≠ (u3 : Value).ownBlock) (.slice Ao9 t528.length co9) t528) ∧ Aside0 (w'.heap[gb524]? = some (.cells #[(.slice A0_0 l0_0.length c0_0)] 40 (0, 0))) ∧ Aside0 (Below w.heap.size w w'))
    case atStart => exact ⟨(true), (0), (by first | rfl | (simp; done) | (simp [*]; done)), (by first | rfl | (simp; done) | (simp [*]; done)), H', ⟨Nat.le_refl _⟩, ⟨zR HO_3.out⟩, ⟨zR HO_4.out⟩, ⟨zk BK524.out⟩, ⟨zB HB.out⟩⟩
    case round =>
     clear H'
     try clear p2
     try clear c8
     try clear c8b0
     try clear c9
     try clear hcz6_0
     try clear hfz6_0
     try clear p2
     obtain ⟨x6_2, x7_2, rfl, rfl, HA, HK2, HO_3, HO_4, BK524, HB⟩ := hrel
     cases gk with
     | zero => exact absurd HA.out (by simp [spec_PseudoFrobenius.l1])
     | succ k2 =>
      have H := HA.out
      clear HA
      simp only [spec_PseudoFrobenius.l1] at H
      by_cases c10 : x7_2 < (l0_0.length : Int)
      ·rw [if_pos c10] at H
       have c10b0 : decide (x7_2 < (l0_0.length : Int)) = true := decide_eq_true c10
       clear c10
       by_cases c11 : x6_2 = true
       ·subst c11
        rw [zT] at H
        obtain ⟨c12, H⟩ := zi H
        have c12b0 : decide (0 ≤ x5_1) = true := decide_eq_true c12
        clear c12
        obtain ⟨c13, H⟩ := zi H
        have c13b0 : decide (x5_1 < (t528.length : Int)) = true := decide_eq_true c13
        clear c13
        obtain ⟨c14, H⟩ := zi H
        have c14b0 : decide (0 ≤ x7_2) = true := decide_eq_true c14
        clear c14
        obtain ⟨t533, A15, H⟩ := zb H
        have H' := Aside0.mk H
        clear H
        have hcz16_0 : wr.cell? ⟨gb524, 0, none⟩ = some (.slice A0_0 l0_0.length c0_0) := (blk_cell BK524.out 0).trans rfl
        have hfz16_0 := blk_frozen BK524.out 0
        have p531 : 0 ≤ (x5_1 : Int) := of_decide_eq_true (by assumption)
        have q531 : x5_1 < (t528.length : Int) := of_decide_eq_true (by assumption)
        obtain ⟨ad531, e531, hx531_0⟩ := Kd.at_int (Kd.R_reads' HO_4.out).2.2 x5_1 p531 q531
        cases e531
        replace p531 := eq_true p531
        replace q531 := eq_true q531
        have p532 : 0 ≤ (x7_2 : Int) := of_decide_eq_true (by assumption)
        have q532 : x7_2 < (l0_0.length : Int) := of_decide_eq_true (by assumption)
        obtain ⟨ad532, e532, hx532_0⟩ := Kd.at_int HR0_0.out x7_2 p532 q532
        cases e532
        (try replace hx532_0 := (HB.out.cell (World.block_lt_of_cell? w _ hx532_0)).trans hx532_0)
        replace p532 := eq_true p532
        replace q532 := eq_true q532
        go_wp2_with (first | (go_at_call 68; (with_reducible refine (spec_HasNumber.calls k2 _ _ t528 (wrap64 ((rd t528 x5_1) + (rd l0_0 x7_2))) t533 _ ?side1 ?side2 A15.out).mono ?_); (case side1 => repeat (first | exact (Kd.R_reads' HO_4.out).2.2 | (with_reducible refine Kd.C_alloc ?_ _) | (with_reducible refine Kd.C_drewN ?_ _) | (with_reducible refine Kd.C_drew ?_))); (case side2 => exact (Kd.R_reads' HO_4.out).2.1); rintro e w' ⟨rfl, ⟨nd, rfl⟩⟩; (try first | exact ⟨rfl, _, World.drewN_drewN _ _ _⟩ | exact ⟨rfl, _, Eq.trans (World.drewN_drewN _ _ _) (congrArg (World.drewN _) (Nat.add_assoc _ _ _))⟩)))
        repeat (go_quiet (first | (go_at_call 68; (with_reducible refine (spec_HasNumber.calls k2 _ _ t528 (wrap64 ((rd t528 x5_1) + (rd l0_0 x7_2))) t533 _ ?side1 ?side2 A15.out).mono ?_); (case side1 => repeat (first | exact (Kd.R_reads' HO_4.out).2.2 | (with_reducible refine Kd.C_alloc ?_ _) | (with_reducible refine Kd.C_drewN ?_ _) | (with_reducible refine Kd.C_drew ?_))); (case side2 => exact (Kd.R_reads' HO_4.out).2.1); rintro e w' ⟨rfl, ⟨nd, rfl⟩⟩; (try first | exact ⟨rfl, _, World.drewN_drewN _ _ _⟩ | exact ⟨rfl, _, Eq.trans (World.drewN_drewN _ _ _) (congrArg (World.drewN _) (Nat.add_assoc _ _ _))⟩))); try go_wp2_with (first | (go_at_call 68; (with_reducible refine (spec_HasNumber.calls k2 _ _ t528 (wrap64 ((rd t528 x5_1) + (rd l0_0 x7_2))) t533 _ ?side1 ?side2 A15.out).mono ?_); (case side1 => repeat (first | exact (Kd.R_reads' HO_4.out).2.2 | (with_reducible refine Kd.C_alloc ?_ _) | (with_reducible refine Kd.C_drewN ?_ _) | (with_reducible refine Kd.C_drew ?_))); (case side2 => exact (Kd.R_reads' HO_4.out).2.1); rintro e w' ⟨rfl, ⟨nd, rfl⟩⟩; (try first | exact ⟨rfl, _, World.drewN_drewN _ _ _⟩ | exact ⟨rfl, _, Eq.trans (World.drewN_drewN _ _ _) (congrArg (World.drewN _) (Nat.add_assoc _ _ _))⟩))))
        go_roundg k2
        case measure => have := HK1.out; have := HK2.out; omega
        case rel => exact ⟨(!t533), (wrap64 (x7_2 + 1)), (by first | rfl | (simp; done) | (simp [*]; done)), (by first | rfl | (simp; done) | (simp [*]; done)), H', ⟨by have := HK1.out; have := HK2.out; omega⟩, ⟨zR HO_3.out⟩, ⟨zR HO_4.out⟩, ⟨zk BK524.out⟩, ⟨zB HB.out⟩⟩
       ·replace c11 := Bool.eq_false_iff.mpr c11
        subst c11
        rw [zF] at H
        have H' := Aside0.mk H
        clear H
        have hcz17_0 : wr.cell? ⟨gb524, 0, none⟩ = some (.slice A0_0 l0_0.length c0_0) := (blk_cell BK524.out 0).trans rfl
        have hfz17_0 := blk_frozen BK524.out 0
        go_wp2
        repeat (go_quiet (fail); try go_wp2)
        go_roundg k2
        case measure => have := HK1.out; have := HK2.out; omega
        case rel => exact ⟨(false), (wrap64 (x7_2 + 1)), (by first | rfl | (simp; done) | (simp [*]; done)), (by first | rfl | (simp; done) | (simp [*]; done)), H', ⟨by have := HK1.out; have := HK2.out; omega⟩, ⟨zR HO_3.out⟩, ⟨zR HO_4.out⟩, ⟨zk BK524.out⟩, ⟨zB HB.out⟩⟩
      ·rw [if_neg c10] at H
       have c10b0 : decide (x7_2 < (l0_0.length : Int)) = false := decide_eq_false c10
       clear c10
       by_cases c18 : x6_2 = true
       ·subst c18
        rw [zT] at H
        obtain ⟨c19, H⟩ := zi H
        have c19b0 : decide (0 ≤ x5_1) = true := decide_eq_true c19
        clear c19
        obtain ⟨c20, H⟩ := zi H
        have c20b0 : decide (x5_1 < (t528.length : Int)) = true := decide_eq_true c20
        clear c20
        obtain ⟨c21, H⟩ := zi H
        have LMc21 := Aside0.mk c21
        clear c21
        obtain ⟨y535, Ny535⟩ : ∃ y_ : List Int, Aside0 (y_ = (x3_1 ++ [rd t528 x5_1])) := ⟨_, ⟨rfl⟩⟩
        (try rw [Option.bind_some] at H)
        (try rw [← Ny535.out] at H)
        have H' := Aside0.mk H
        clear H
        have hcz22_0 : wr.cell? ⟨gb524, 0, none⟩ = some (.slice A0_0 l0_0.length c0_0) := (blk_cell BK524.out 0).trans rfl
        have hfz22_0 := blk_frozen BK524.out 0
        have p534 : 0 ≤ (x5_1 : Int) := of_decide_eq_true (by assumption)
        have q534 : x5_1 < (t528.length : Int) := of_decide_eq_true (by assumption)
        obtain ⟨ad534, e534, hx534_0⟩ := Kd.at_int (Kd.R_reads' HO_4.out).2.2 x5_1 p534 q534
        cases e534
        replace p534 := eq_true p534
        replace q534 := eq_true q534
        go_wp2_with (first | ((with_reducible refine gate_builtin (b := .append) (xs := #[.tmp 41, .tmp 46]) rfl ?_); at_builtin; refine Kd.R_append (Kd.int .i64) (w0 := w) w.heap.size rfl (.tmp 41) (.tmp 46) 33 3 (.int .i64 0) 8 rfl Try.underlying33 info3 rfl (by decide) (by omega) u3 x3_1 (rd t528 x5_1) [.int .i64 (rd t528 x5_1)] (fun k_ => some k_ ≠ (.slice (some ad534) t528.length co9 : Value).ownBlock) (fun _ => False) rfl rfl ?aP (fun _ hk => hk.elim) ?aF ?aO ?aB ?aS ?aL ?_; (case aP => exact rfl); (case aB => exact (zB HB.out)); (case aF => exact (fun k_ hk => Kd.fresh' (Kd.R_lt (zR HO_4.out)) k_ hk)); (case aO => exact (zR HO_3.out)); (case aS => exact (zS HB.out)); (case aL => have := LMc21.out; omega); intro v536 w23 ho hb hg hat; rw [← Ny535.out] at ho; have n0_ := Aside0.mk (Kd.R_after (ok := (fun _ => True)) (zR (Kd.R_mono HO_4.out (fun _ hk => ⟨trivial, by first | exact hk | (rw [qO] at hk ⊢; exact hk)⟩))) hg hat); have n1_ := Aside0.mk (blk_grown (g := gb524) (o := .cells #[.slice A0_0 l0_0.length c0_0] 40 (0, 0)) (zk BK524.out) hg (Kd.R_ne HO_3.out BK524.out (by decide))); have n2_ := Aside0.mk (hb); have n3_ := Aside0.mk (ho); clear HO_4; clear BK524; clear HB; clear HO_3; have HO_4 := n0_; have BK524 := n1_; have HB := n2_; have HO537 := n3_; clear n0_ n1_ n2_ n3_; clear ho hb hg hat))
        repeat (go_quiet (first | ((with_reducible refine gate_builtin (b := .append) (xs := #[.tmp 41, .tmp 46]) rfl ?_); at_builtin; refine Kd.R_append (Kd.int .i64) (w0 := w) w.heap.size rfl (.tmp 41) (.tmp 46) 33 3 (.int .i64 0) 8 rfl Try.underlying33 info3 rfl (by decide) (by omega) u3 x3_1 (rd t528 x5_1) [.int .i64 (rd t528 x5_1)] (fun k_ => some k_ ≠ (.slice (some ad534) t528.length co9 : Value).ownBlock) (fun _ => False) rfl rfl ?aP (fun _ hk => hk.elim) ?aF ?aO ?aB ?aS ?aL ?_; (case aP => exact rfl); (case aB => exact (zB HB.out)); (case aF => exact (fun k_ hk => Kd.fresh' (Kd.R_lt (zR HO_4.out)) k_ hk)); (case aO => exact (zR HO_3.out)); (case aS => exact (zS HB.out)); (case aL => have := LMc21.out; omega); intro v536 w23 ho hb hg hat; rw [← Ny535.out] at ho; have n0_ := Aside0.mk (Kd.R_after (ok := (fun _ => True)) (zR (Kd.R_mono HO_4.out (fun _ hk => ⟨trivial, by first | exact hk | (rw [qO] at hk ⊢; exact hk)⟩))) hg hat); have n1_ := Aside0.mk (blk_grown (g := gb524) (o := .cells #[.slice A0_0 l0_0.length c0_0] 40 (0, 0)) (zk BK524.out) hg (Kd.R_ne HO_3.out BK524.out (by decide))); have n2_ := Aside0.mk (hb); have n3_ := Aside0.mk (ho); clear HO_4; clear BK524; clear HB; clear HO_3; have HO_4 := n0_; have BK524 := n1_; have HB := n2_; have HO537 := n3_; clear n0_ n1_ n2_ n3_; clear ho hb hg hat)); try go_wp2_with (first | ((with_reducible refine gate_builtin (b := .append) (xs := #[.tmp 41, .tmp 46]) rfl ?_); at_builtin; refine Kd.R_append (Kd.int .i64) (w0 := w) w.heap.size rfl (.tmp 41) (.tmp 46) 33 3 (.int .i64 0) 8 rfl Try.underlying33 info3 rfl (by decide) (by omega) u3 x3_1 (rd t528 x5_1) [.int .i64 (rd t528 x5_1)] (fun k_ => some k_ ≠ (.slice (some ad534) t528.length co9 : Value).ownBlock) (fun _ => False) rfl rfl ?aP (fun _ hk => hk.elim) ?aF ?aO ?aB ?aS ?aL ?_; (case aP => exact rfl); (case aB => exact (zB HB.out)); (case aF => exact (fun k_ hk => Kd.fresh' (Kd.R_lt (zR HO_4.out)) k_ hk)); (case aO => exact (zR HO_3.out)); (case aS => exact (zS HB.out)); (case aL => have := LMc21.out; omega); intro v536 w23 ho hb hg hat; rw [← Ny535.out] at ho; have n0_ := Aside0.mk (Kd.R_after (ok := (fun _ => True)) (zR (Kd.R_mono HO_4.out (fun _ hk => ⟨trivial, by first | exact hk | (rw [qO] at hk ⊢; exact hk)⟩))) hg hat); have n1_ := Aside0.mk (blk_grown (g := gb524) (o := .cells #[.slice A0_0 l0_0.length c0_0] 40 (0, 0)) (zk BK524.out) hg (Kd.R_ne HO_3.out BK524.out (by decide))); have n2_ := Aside0.mk (hb); have n3_ := Aside0.mk (ho); clear HO_4; clear BK524; clear HB; clear HO_3; have HO_4 := n0_; have BK524 := n1_; have HB := n2_; have HO537 := n3_; clear n0_ n1_ n2_ n3_; clear ho hb hg hat)))
        go_roundg k2
        case measure => have := HK1.out; have := HK2.out; omega
        case rel => exact ⟨(y535), (wrap64 (x5_1 + 1)), (by first | rfl | (simp; done) | (simp [*]; done)), H', ⟨by have := HK1.out; have := HK2.out; omega⟩, ⟨zR HO537.out⟩, ⟨zR (Kd.R_mono HO_4.out (fun _ hk => hk.2))⟩, ⟨zk BK524.out⟩, ⟨zB HB.out⟩⟩
       ·replace c18 := Bool.eq_false_iff.mpr c18
        subst c18
        rw [zF] at H
        have H' := Aside0.mk H
        clear H
        have hcz24_0 : wr.cell? ⟨gb524, 0, none⟩ = some (.slice A0_0 l0_0.length c0_0) := (blk_cell BK524.out 0).trans rfl
        have hfz24_0 := blk_frozen BK524.out 0
        go_wp2
        repeat (go_quiet (fail); try go_wp2)
        go_roundg k2
        case measure => have := HK1.out; have := HK2.out; omega
        case rel => exact ⟨(x3_1), (wrap64 (x5_1 + 1)), (by first | rfl | (simp; done) | (simp [*]; done)), H', ⟨by have := HK1.out; have := HK2.out; omega⟩, ⟨zR HO_3.out⟩, ⟨zR HO_4.out⟩, ⟨zk BK524.out⟩, ⟨zB HB.out⟩⟩
   ·rw [if_neg c8] at H
    have c8b0 : decide (x5_1 < (t528.length : Int)) = false := decide_eq_false c8
    clear c8
    obtain rfl := Option.some.inj H
    obtain ⟨Ao25, co25, eo25⟩ := Kd.R_slice HO_4.out
    subst eo25
    go_wp2
    repeat (go_quiet (fail); try go_wp2)
    go_ret
    exact ⟨_, by first | rfl | (simp [errW_none, errW_some] <;> rfl) | (simp [*, errW_none, errW_some] <;> rfl), zR (Kd.R_mono HO_3.out (fun _ hk => trivial)), zB HB.out⟩

/-! ### spec_TypeOf: function 96 -/
def spec_TypeOf.f (k : Nat) (l0_0 : List Int) : Option (Int) := (spec_IsSemigroup.f k l0_0).bind fun t539 => (if t539 = true then ((spec_PseudoFrobenius.f k l0_0).bind fun t540 => ((spec_l1Max.f 1 (t540.length : Int)).bind fun t543 => (some t543))) else (some 0))
theorem spec_TypeOf.mono : ∀ a0 k, LeO (spec_TypeOf.f k a0) (spec_TypeOf.f (k + 1) a0) := by
 intro a0 k
 unfold spec_TypeOf.f
 repeat' first
   | (with_reducible first | exact spec_IsSemigroup.mono _ _ | exact spec_PseudoFrobenius.mono _ _ | exact LeO.refl _ | exact LeO.none _ | refine LeO.ite ?_ ?_ | refine LeO.bind ?_ (fun _ => ?_))
   | exact LeO.none _
   | refine LeO.ite ?_ ?_
   | refine LeO.bind ?_ (fun _ => ?_)
set_option maxHeartbeats 8000000 in
set_option maxRecDepth 100000 in
theorem spec_TypeOf.calls (k : Nat) (A0_0 : Option Addr) (c0_0 : Nat) (l0_0 : List Int) (r : Int) (w : World) (hr0_0 : Kd.C (Kd.int .i64) w A0_0 l0_0.length l0_0) (hc0_0 : l0_0.length ≤ c0_0) (h : spec_TypeOf.f k l0_0 = some r) :
  Calls Try.prog 96 #[.agg #[.slice A0_0 l0_0.length c0_0]] w fun e w' => e = .returned (.int .i64 r) ∧ Below w.heap.size w w' := by
 have hu40 := Try.underlying40
 have HR0_0 := Aside0.mk hr0_0
 have HC0_0 := Aside0.mk hc0_0
 clear hr0_0 hc0_0
 have HB := Aside0.mk (Below.refl w.heap.size w)
 have H : ((spec_IsSemigroup.f k l0_0).bind fun t539 => (if t539 = true then ((spec_PseudoFrobenius.f k l0_0).bind fun t540 => ((spec_l1Max.f 1 (t540.length : Int)).bind fun t543 => (some t543))) else (some 0))) = some r := h
 clear h
 obtain ⟨t539, A2, H⟩ := zb H
 have HU3 := Aside0.mk H
 clear H
 go_enter Try.func96, Try.ntmps96
 go_upto_if 5 with (first | ((with_reducible refine gate_dst (N := 1) rfl ?_); refine box_event ?hg (N := 1) ?hd (cs := #[.slice A0_0 l0_0.length c0_0]) (t := 40) ?hr ?_; (case hd => rfl); (case hg => rfl); (case hr => first | (go_simp; done) | (go_simp; rfl)); intro gb538 hg w4 hbox hb; have n0_ := Aside0.mk (below_step (zB HB.out) hb); have n1_ := Aside0.mk (hbox); have n2_ := Aside0.mk ((by rw [hg]; exact (zS HB.out) : w.heap.size ≤ gb538)); have n3_ := Aside0.mk ((by rw [hg]; exact (zS HB.out) : w.heap.size ≤ gb538)); clear HB; have HB := n0_; have BK538 := n1_; have GW538 := n2_; have GE538 := n3_; clear n0_ n1_ n2_ n3_; clear hb hbox hg; have hcz5_0 : w4.cell? ⟨gb538, 0, none⟩ = some (.slice A0_0 l0_0.length c0_0) := (blk_cell BK538.out 0).trans rfl; have hfz5_0 := blk_frozen BK538.out 0) | ((with_reducible refine gate_callee (f := 54) rfl ?_); refine goesL_ (some 4) rfl rfl Try.func54 (by kernel_rfl) rfl #[.agg #[.slice A0_0 l0_0.length c0_0]] rfl (by (try simp only [za, zc, zn]); first | done | rfl) ?_; (with_reducible refine (spec_IsSemigroup.calls k _ _ l0_0 t539 _ ?side1 ?side2 A2.out).mono ?_); (case side1 => exact zC (Kd.C_below HR0_0.out HB.out)); (case side2 => exact HC0_0.out); rintro e w6 ⟨rfl, hb⟩; refine ⟨_, rfl, ?_⟩; have n0_ := Aside0.mk (blk_below (g := gb538) (o := .cells #[.slice A0_0 l0_0.length c0_0] 40 (0, 0)) (zk BK538.out) hb); have n1_ := Aside0.mk (below_step (zB HB.out) hb); clear BK538; clear HB; have BK538 := n0_; have HB := n1_; clear n0_ n1_; (try clear hb); (try clear hb2); (try clear hk); (try clear hi)))
 (try simp only [Act.put, List.setIfInBounds_toArray, List.set_cons_zero, List.set_cons_succ])
 have H := HU3.out
 clear HU3
 by_cases c7 : t539 = true
 ·subst c7
  rw [zT] at H
  obtain ⟨t540, A8, H⟩ := zb H
  obtain ⟨t543, A9, H⟩ := zb H
  obtain rfl := Option.some.inj H
  have hcz10_0 : w6.cell? ⟨gb538, 0, none⟩ = some (.slice A0_0 l0_0.length c0_0) := (blk_cell BK538.out 0).trans rfl
  have hfz10_0 := blk_frozen BK538.out 0
  go_wp2_with (first | ((with_reducible refine gate_callee (f := 95) rfl ?_); refine goesL_ (some 7) rfl rfl Try.func95 (by kernel_rfl) rfl #[.agg #[.slice A0_0 l0_0.length c0_0]] rfl (by (try simp only [za, zc, zn]); first | done | rfl) ?_; (with_reducible refine (spec_PseudoFrobenius.calls k _ _ l0_0 t540 _ ?side1 ?side2 A8.out).mono ?_); (case side1 => exact zC (Kd.C_below HR0_0.out HB.out)); (case side2 => exact HC0_0.out); rintro e w11 ⟨v541, rfl, ho0, hb⟩; refine ⟨_, rfl, ?_⟩; have n0_ := Aside0.mk (Kd.R_lower ho0 (zS HB.out)); have n1_ := Aside0.mk (blk_below (g := gb538) (o := .cells #[.slice A0_0 l0_0.length c0_0] 40 (0, 0)) (zk BK538.out) hb); have n2_ := Aside0.mk (below_step (zB HB.out) hb); clear BK538; clear HB; have HO542 := n0_; have BK538 := n1_; have HB := n2_; clear n0_ n1_ n2_; (try clear hb); (try clear hb2); (try clear hk); (try clear hi); (try clear ho0); obtain ⟨Ao12, co12, eo12⟩ := Kd.R_slice HO542.out; subst eo12) | ((with_reducible refine gate_callee (f := 146) rfl ?_); refine goesL_ (some 9) rfl rfl Try.func146 (by kernel_rfl) rfl #[.int .i64 1, .int .i64 (t540.length : Int)] rfl (by (try simp only [za, zc, zn]); first | done | rfl) ?_; (with_reducible refine (spec_l1Max.calls 1 (t540.length : Int) t543 _ A9.out).mono ?_); rintro e w' ⟨rfl, ⟨nd, rfl⟩⟩; refine ⟨_, rfl, ?_⟩))
  go_ret
  exact ⟨by first | rfl | (simp [errW_none, errW_some] <;> rfl) | (simp [*, errW_none, errW_some] <;> rfl), zB HB.out⟩
 ·replace c7 := Bool.eq_false_iff.mpr c7
  subst c7
  rw [zF] at H
  obtain rfl := Option.some.inj H
  go_wp2
  go_ret
  exact ⟨by first | rfl | (simp [errW_none, errW_some] <;> rfl) | (simp [*, errW_none, errW_some] <;> rfl), zB HB.out⟩

/-! ### spec_l3Has: function 139 -/
def spec_l3Has.f (k : Nat) (l0_0 : List Int) (a1 : Int) : Option (Bool) := if a1 < 0 then (some (decide (a1 > 0))) else (if a1 ≥ 200 then (some (decide (a1 > 0))) else ((spec_l3Table.f k l0_0 a1).bind fun t545 => (if 0 ≤ a1 then (if a1 < (t545.length : Int) then (some (rdOf false t545 a1)) else (none)) else (none))))
theorem spec_l3Has.mono : ∀ a0 a1 k, LeO (spec_l3Has.f k a0 a1) (spec_l3Has.f (k + 1) a0 a1) := by
 intro a0 a1 k
 unfold spec_l3Has.f
 repeat' first
   | (with_reducible first | exact spec_l3Table.mono _ _ _ | exact LeO.refl _ | exact LeO.none _ | refine LeO.ite ?_ ?_ | refine LeO.bind ?_ (fun _ => ?_))
   | exact LeO.none _
   | refine LeO.ite ?_ ?_
   | refine LeO.bind ?_ (fun _ => ?_)
set_option maxHeartbeats 8000000 in
set_option maxRecDepth 100000 in
theorem spec_l3Has.calls (k : Nat) (A0_0 : Option Addr) (c0_0 : Nat) (l0_0 : List Int) (a1 : Int) (r : Bool) (w : World) (hr0_0 : Kd.C (Kd.int .i64) w A0_0 l0_0.length l0_0) (hc0_0 : l0_0.length ≤ c0_0) (h : spec_l3Has.f k l0_0 a1 = some r) :
  Calls Try.prog 139 #[.agg #[.slice A0_0 l0_0.length c0_0], .int .i64 a1] w fun e w' => e = .returned (.bool r) ∧ Below w.heap.size w w' := by
 have hu40 := Try.underlying40
 have HR0_0 := Aside0.mk hr0_0
 have HC0_0 := Aside0.mk hc0_0
 clear hr0_0 hc0_0
 have HB := Aside0.mk (Below.refl w.heap.size w)
 have H : (if a1 < 0 then (some (decide (a1 > 0))) else (if a1 ≥ 200 then (some (decide (a1 > 0))) else ((spec_l3Table.f k l0_0 a1).bind fun t545 => (if 0 ≤ a1 then (if a1 < (t545.length : Int) then (some (rdOf false t545 a1)) else (none)) else (none))))) = some r := h
 clear h
 by_cases c3 : a1 < 0
 ·rw [if_pos c3] at H
  have c3b0 : decide (a1 < 0) = true := decide_eq_true c3
  clear c3
  obtain rfl := Option.some.inj H
  go_enter Try.func139, Try.ntmps139
  go_wp2_with (first | ((with_reducible refine gate_dst (N := 2) rfl ?_); refine box_event ?hg (N := 2) ?hd (cs := #[.slice A0_0 l0_0.length c0_0]) (t := 40) ?hr ?_; (case hd => rfl); (case hg => rfl); (case hr => first | (go_simp; done) | (go_simp; rfl)); intro gb544 hg w4 hbox hb; have n0_ := Aside0.mk (below_step (zB HB.out) hb); have n1_ := Aside0.mk (hbox); have n2_ := Aside0.mk ((by rw [hg]; exact (zS HB.out) : w.heap.size ≤ gb544)); have n3_ := Aside0.mk ((by rw [hg]; exact (zS HB.out) : w.heap.size ≤ gb544)); clear HB; have HB := n0_; have BK544 := n1_; have GW544 := n2_; have GE544 := n3_; clear n0_ n1_ n2_ n3_; clear hb hbox hg))
  go_ret
  exact ⟨by first | rfl | (simp [errW_none, errW_some] <;> rfl) | (simp [*, errW_none, errW_some] <;> rfl), zB HB.out⟩
 ·rw [if_neg c3] at H
  have c3b0 : decide (a1 < 0) = false := decide_eq_false c3
  clear c3
  have HU5 := Aside0.mk H
  clear H
  go_enter Try.func139, Try.ntmps139
  go_upto_if 10 with (first | ((with_reducible refine gate_dst (N := 2) rfl ?_); refine box_event ?hg (N := 2) ?hd (cs := #[.slice A0_0 l0_0.length c0_0]) (t := 40) ?hr ?_; (case hd => rfl); (case hg => rfl); (case hr => first | (go_simp; done) | (go_simp; rfl)); intro gb544 hg w6 hbox hb; have n0_ := Aside0.mk (below_step (zB HB.out) hb); have n1_ := Aside0.mk (hbox); have n2_ := Aside0.mk ((by rw [hg]; exact (zS HB.out) : w.heap.size ≤ gb544)); have n3_ := Aside0.mk ((by rw [hg]; exact (zS HB.out) : w.heap.size ≤ gb544)); clear HB; have HB := n0_; have BK544 := n1_; have GW544 := n2_; have GE544 := n3_; clear n0_ n1_ n2_ n3_; clear hb hbox hg))
  (try simp only [Act.put, List.setIfInBounds_toArray, List.set_cons_zero, List.set_cons_succ])
  have H := HU5.out
  clear HU5
  by_cases c7 : a1 ≥ 200
  ·rw [if_pos c7] at H
   have c7b0 : decide (200 ≤ a1) = true := decide_eq_true c7
   clear c7
   (first | rw [c7b0] | rw [c7b1] | (simp only [i64_w, i32_w]; rw [c7b0]) | skip)
   obtain rfl := Option.some.inj H
   go_wp2
   go_ret
   exact ⟨by first | rfl | (simp [errW_none, errW_some] <;> rfl) | (simp [*, errW_none, errW_some] <;> rfl), zB HB.out⟩
  ·rw [if_neg c7] at H
   have c7b0 : decide (200 ≤ a1) = false := decide_eq_false c7
   clear c7
   (first | rw [c7b0] | rw [c7b1] | (simp only [i64_w, i32_w]; rw [c7b0]) | skip)
   obtain ⟨t545, A8, H⟩ := zb H
   by_cases c9 : 0 ≤ a1
   ·rw [if_pos c9] at H
    have c9b0 : decide (0 ≤ a1) = true := decide_eq_true c9
    clear c9
    obtain ⟨c10, H⟩ := zi H
    have c10b0 : decide (a1 < (t545.length : Int)) = true := decide_eq_true c10
    clear c10
    obtain rfl := Option.some.inj H
    have hcz11_0 : w6.cell? ⟨gb544, 0, none⟩ = some (.slice A0_0 l0_0.length c0_0) := (blk_cell BK544.out 0).trans rfl
    have hfz11_0 := blk_frozen BK544.out 0
    go_wp2_with (first | ((with_reducible refine gate_callee (f := 134) rfl ?_); refine goesL_ (some 16) rfl rfl Try.func134 (by kernel_rfl) rfl #[.slice A0_0 l0_0.length c0_0, .int .i64 a1] rfl (by (try simp only [za, zc, zn]); first | done | rfl) ?_; (with_reducible refine (spec_l3Table.calls k _ _ l0_0 a1 t545 _ ?side1 ?side2 A8.out).mono ?_); (case side1 => exact zC (Kd.C_below HR0_0.out HB.out)); (case side2 => exact HC0_0.out); rintro e w12 ⟨v546, rfl, ho0, hb⟩; refine ⟨_, rfl, ?_⟩; have n0_ := Aside0.mk (Kd.R_lower ho0 (zS HB.out)); have n1_ := Aside0.mk (blk_below (g := gb544) (o := .cells #[.slice A0_0 l0_0.length c0_0] 40 (0, 0)) (zk BK544.out) hb); have n2_ := Aside0.mk (below_step (zB HB.out) hb); clear BK544; clear HB; have HO547 := n0_; have BK544 := n1_; have HB := n2_; clear n0_ n1_ n2_; (try clear hb); (try clear hb2); (try clear hk); (try clear hi); (try clear ho0); obtain ⟨Ao13, co13, eo13⟩ := Kd.R_slice HO547.out; subst eo13; have p548 : 0 ≤ (a1 : Int) := of_decide_eq_true (by assumption); have q548 : a1 < (t545.length : Int) := of_decide_eq_true (by assumption); obtain ⟨ad548, e548, hx548_0⟩ := Kd.at_bool (Kd.R_reads' HO547.out).2.2 a1 p548 q548; cases e548; replace p548 := eq_true p548; replace q548 := eq_true q548))
    go_ret
    exact ⟨by first | rfl | (simp [errW_none, errW_some] <;> rfl) | (simp [*, errW_none, errW_some] <;> rfl), zB HB.out⟩
   ·rw [if_neg c9] at H
    exact absurd H (by simp)

end Go.Proofs.Ytbagfnppeidonaa.PFnSymmetry
