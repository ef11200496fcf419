-- Written by a program of this session (a turned copy of the kit's print; see NOTES.md).
import Derived.Test.YthednemidaegkaaPFnSemigroupsx0
import Derived.Test.YthednemidaegkaaPFnSemigroupsx19
namespace Go.Proofs.Ythednemidaegkaa.PFnSemigroups
open Go.RowKit Go.Proofs.YthednemidaegkaaW.PrintWords Go.Proofs.YthednemidaegkaaW.PrintLast Go.Proofs.YthednemidaegkaaW.PrintMore
attribute [local go_sem] max2_int min2_int max_two min_two max_three min_three max_four min_four   -- for this text's walks alone
set_option linter.unusedVariables false
set_option linter.unusedSimpArgs false

/-! ### spec_Generates: function 27 -/
def spec_Generates.j0 : Nat → List Int → Int → Bool → Option (Bool)
 | 0, _, _, _ => none
 | k + 1, x0, x1, x13 => if x13 = true then (some false) else ((spec_GcdOfList.f k x0).bind fun t674 => (if t674 = 0 then (none) else (if (Int.tmod x1 t674) = 0 then (if x1 > 3600 then (if 0 < (x0.length : Int) then (if (rd x0 0) = 0 then (none) else ((spec_l3Table.f k x0 (wrap64 (3600 + (Int.tmod (wrap64 (x1 - 3600)) (rd x0 0))))).bind fun t676 => (if 0 ≤ (wrap64 (3600 + (Int.tmod (wrap64 (x1 - 3600)) (rd x0 0)))) then (if (wrap64 (3600 + (Int.tmod (wrap64 (x1 - 3600)) (rd x0 0)))) < (t676.length : Int) then (some (rdOf false t676 (wrap64 (3600 + (Int.tmod (wrap64 (x1 - 3600)) (rd x0 0)))))) else (none)) else (none)))) else (none)) else ((spec_l3Table.f k x0 x1).bind fun t680 => (if 0 ≤ x1 then (if x1 < (t680.length : Int) then (some (rdOf false t680 x1)) else (none)) else (none)))) else (some false))))
def spec_Generates.f (k : Nat) (l0 : List Int) (a1 : Int) : Option (Bool) := (spec_l3Gens.f k l0).bind fun t672 => (if t672 = true then ((spec_l1In.f a1 0 1000000).bind fun t673 => (spec_Generates.j0 k l0 a1 (!t673))) else (spec_Generates.j0 k l0 a1 true))
set_option maxHeartbeats 8000000 in
set_option maxRecDepth 100000 in
theorem spec_Generates.calls (k : Nat) (A0 : Option Addr) (c0 : Nat) (l0 : List Int) (a1 : Int) (r : Bool) (w : World) (hr0 : Kd.C (Kd.int .i64) w A0 l0.length l0) (hc0 : l0.length ≤ c0) (h : spec_Generates.f k l0 a1 = some r) :
  Calls Try.prog 27 #[.slice A0 l0.length c0, .int .i64 a1] w fun e w' => e = .returned (.bool r) ∧ Below w.heap.size w w' := by
 have HR0 := Aside0.mk hr0; have HC0 := Aside0.mk hc0; clear hr0 hc0; have HB := Aside0.mk (Below.refl w.heap.size w); have H : ((spec_l3Gens.f k l0).bind fun t672 => (if t672 = true then ((spec_l1In.f a1 0 1000000).bind fun t673 => (spec_Generates.j0 k l0 a1 (!t673))) else (spec_Generates.j0 k l0 a1 true))) = some r := h; clear h; have HC3 := Aside0.mk H; clear H; go_enter Try.func27, Try.ntmps27; go_upto_region 1 with (fail)
 go_cut [13] (fun v13 wc => ∃ (kq : Nat) (x13_2 : Bool), v13 = .bool x13_2 ∧ Aside0 (spec_Generates.j0 kq l0 a1 x13_2 = some r) ∧ Aside0 (kq ≤ k) ∧ Aside0 (Below w.heap.size w wc))
 case first =>
  have H := HC3.out; clear HC3; obtain ⟨t672, A4, H⟩ := zb H
  by_cases c5 : t672 = true
  ·subst c5; rw [zT] at H; obtain ⟨t673, A6, H⟩ := zb H; have H' := Aside0.mk H; clear H; go_wp2_with (first | ((with_reducible refine gate_callee (f := 57) rfl ?_); refine goesL_ (some 7) rfl rfl Try.func57 (by kernel_rfl) rfl #[.slice A0 l0.length c0] rfl (by (try simp only [za, zc, zn]); first | done | rfl) ?_; (with_reducible refine (spec_l3Gens.calls k _ _ l0 true _ ?side1 ?side2 A4.out).mono ?_); (case side1 => exact zC (Kd.C_below HR0.out HB.out)); (case side2 => exact HC0.out); rintro e w' ⟨rfl, ⟨nd, rfl⟩⟩; refine ⟨_, rfl, ?_⟩) | (go_at_call 45; (with_reducible refine (spec_l1In.calls a1 0 1000000 t673 _ A6.out).mono ?_); rintro e w' ⟨rfl, ⟨nd, rfl⟩⟩))
   go_meet
   case rel => exact ⟨_, (!t673), (by first | rfl | (simp; done) | (simp [*]; done)), H', ⟨by first | omega | exact Nat.le_refl _⟩, ⟨zB HB.out⟩⟩
  ·replace c5 := Bool.eq_false_iff.mpr c5; subst c5; rw [zF] at H; have H' := Aside0.mk H; clear H; go_wp2_with (first | ((with_reducible refine gate_callee (f := 57) rfl ?_); refine goesL_ (some 7) rfl rfl Try.func57 (by kernel_rfl) rfl #[.slice A0 l0.length c0] rfl (by (try simp only [za, zc, zn]); first | done | rfl) ?_; (with_reducible refine (spec_l3Gens.calls k _ _ l0 false _ ?side1 ?side2 A4.out).mono ?_); (case side1 => exact zC (Kd.C_below HR0.out HB.out)); (case side2 => exact HC0.out); rintro e w' ⟨rfl, ⟨nd, rfl⟩⟩; refine ⟨_, rfl, ?_⟩))
   go_meet
   case rel => exact ⟨_, (true), (by first | rfl | (simp; done) | (simp [*]; done)), H', ⟨by first | omega | exact Nat.le_refl _⟩, ⟨zB HB.out⟩⟩
 case rest =>
  clear HC3; obtain ⟨kq, x13_2, rfl, HA, HJ2, HB⟩ := hcut
  cases kq with
  | zero => exact absurd HA.out (by simp [spec_Generates.j0])
  | succ kj2 =>
   have H := HA.out; clear HA; simp only [spec_Generates.j0] at H
   by_cases c7 : x13_2 = true
   ·subst c7; rw [zT] at H; obtain rfl := Option.some.inj H; go_wp2; go_ret
    exact ⟨by first | rfl | (simp [*, errW_none, errW_some] <;> rfl), zB HB.out⟩
   ·replace c7 := Bool.eq_false_iff.mpr c7; subst c7; rw [zF] at H; obtain ⟨t674, A8, H⟩ := zb H
    by_cases c9 : t674 = 0
    ·rw [if_pos c9] at H; exact absurd H (by simp)
    ·rw [if_neg c9] at H; have c9b0 : (t674 == 0) = false := beq_eq_false_iff_ne.mpr c9; have c9b1 : (t674 != 0) = true := bne_iff_ne.mpr c9; have HU10 := Aside0.mk H; clear H; go_upto_if 19 with (first | ((with_reducible refine gate_callee (f := 61) rfl ?_); refine goesL_ (some 15) rfl rfl Try.func61 (by kernel_rfl) rfl #[.slice A0 l0.length c0] rfl (by (try simp only [za, zc, zn]); first | done | rfl) ?_; (with_reducible refine (spec_GcdOfList.calls kj2 _ _ l0 t674 _ ?side1 ?side2 A8.out).mono ?_); (case side1 => exact zC (Kd.C_below HR0.out HB.out)); (case side2 => exact HC0.out); rintro e w' ⟨rfl, ⟨nd, rfl⟩⟩; refine ⟨_, rfl, ?_⟩))
     (try simp only [Act.put, List.setIfInBounds_toArray, List.set_cons_zero, List.set_cons_succ]); have H := HU10.out; clear HU10
     by_cases c11 : (Int.tmod a1 t674) = 0
     ·rw [if_pos c11] at H; have c11b0 : ((Int.tmod a1 t674) == 0) = true := beq_iff_eq.mpr c11; have c11b1 : ((Int.tmod a1 t674) != 0) = false := bne_eq_false_iff_eq.mpr c11; clear c11; (first | rw [c11b0] | rw [c11b1] | (simp only [i64_w, i32_w]; rw [c11b0]) | skip)
      by_cases c12 : a1 > 3600
      ·rw [if_pos c12] at H; have c12b0 : decide (3600 < a1) = true := decide_eq_true c12; clear c12; obtain ⟨c13, H⟩ := zi H; have c13b0 : decide (0 < (l0.length : Int)) = true := decide_eq_true c13; have c13b1 : decide (0 < l0.length) = true := decide_eq_true (by omega); clear c13
       by_cases c14 : (rd l0 0) = 0
       ·rw [if_pos c14] at H; exact absurd H (by simp)
       ·rw [if_neg c14] at H; have c14b0 : ((rd l0 0) == 0) = false := beq_eq_false_iff_ne.mpr c14; have c14b1 : ((rd l0 0) != 0) = true := bne_iff_ne.mpr c14; obtain ⟨t676, A15, H⟩ := zb H; obtain ⟨ji16, hji16⟩ : ∃ j_ : Int, (wrap64 (3600 + (Int.tmod (wrap64 (a1 - 3600)) (rd l0 0)))) = j_ := ⟨_, rfl⟩; replace H : (if 0 ≤ (ji16) then (if (ji16) < (t676.length : Int) then (some (rdOf false t676 (ji16))) else (none)) else (none)) = some r := by first | (rw [hji16] at H; exact H) | (simp only [hji16] at H ⊢; exact H)
        (try rw [hji16] at A15); have hji16w : (IntKind.i64.wrap (3600 + (Int.tmod (wrap64 (a1 - 3600)) (rd l0 0)))) = ji16 := (i64_w _).trans hji16; obtain ⟨c17, H⟩ := zi H; have c17b0 : decide (0 ≤ (ji16)) = true := decide_eq_true c17; clear c17; obtain ⟨c18, H⟩ := zi H; have c18b0 : decide ((ji16) < (t676.length : Int)) = true := decide_eq_true c18; clear c18; obtain rfl := Option.some.inj H; have p675 : 0 ≤ (0 : Int) := (by omega); have q675 : 0 < (l0.length : Int) := of_decide_eq_true (by assumption); obtain ⟨ad675, e675, hx675_0⟩ := Kd.at_int HR0.out 0 p675 q675
        cases e675; have qi675 : (0 < l0.length) = True := eq_true (by omega); (try rw [show ((0 : Int)).toNat = 0 from rfl] at hx675_0); (try rw [Addr.add_zero'] at hx675_0); (try replace hx675_0 := (HB.out.cell (World.block_lt_of_cell? w _ hx675_0)).trans hx675_0); replace p675 := eq_true p675; replace q675 := eq_true q675; go_wp2_with (first | ((with_reducible refine gate_callee (f := 62) rfl ?_); refine goesL_ (some 31) rfl rfl Try.func62 (by kernel_rfl) rfl #[.slice (some ad675) l0.length c0, .int .i64 ji16] rfl (by (try simp only [List.map_toArray, List.map_cons, List.map_nil]); first | done | (simp only [hji16]; rfl) | rfl | (simp only [List.length_drop, List.length_take]; rfl)) ?_; (with_reducible refine (spec_l3Table.calls kj2 _ _ l0 ji16 t676 _ ?side1 ?side2 A15.out).mono ?_); (case side1 => exact zC (Kd.C_below HR0.out HB.out)); (case side2 => exact HC0.out); rintro e w19 ⟨v677, rfl, ho0, hb⟩; refine ⟨_, rfl, ?_⟩; have HO678 := Aside0.mk (Kd.R_lower ho0 (zS HB.out)); replace HB := Aside0.mk (below_step (zB HB.out) hb); (try clear hb); (try clear hb2); (try clear hk); (try clear hi); (try clear ho0); obtain ⟨Ao20, co20, eo20⟩ := Kd.R_slice HO678.out; subst eo20; have p679 : 0 ≤ ((ji16) : Int) := of_decide_eq_true (by assumption); have q679 : (ji16) < (t676.length : Int) := of_decide_eq_true (by assumption); obtain ⟨ad679, e679, hx679_0⟩ := Kd.at_bool (Kd.R_reads' HO678.out).2.2 (ji16) p679 q679; cases e679; replace p679 := eq_true p679; replace q679 := eq_true q679)); go_ret
        exact ⟨by first | rfl | (simp [errW_none, errW_some] <;> rfl) | (simp only [← hji16]; first | rfl | (simp [errW_none, errW_some] <;> rfl)) | (simp [*, errW_none, errW_some] <;> rfl), zB HB.out⟩
      ·rw [if_neg c12] at H; have c12b0 : decide (3600 < a1) = false := decide_eq_false c12; clear c12; obtain ⟨t680, A21, H⟩ := zb H; obtain ⟨c22, H⟩ := zi H; have c22b0 : decide (0 ≤ a1) = true := decide_eq_true c22; clear c22; obtain ⟨c23, H⟩ := zi H; have c23b0 : decide (a1 < (t680.length : Int)) = true := decide_eq_true c23; clear c23; obtain rfl := Option.some.inj H; go_wp2_with (first | ((with_reducible refine gate_callee (f := 62) rfl ?_); refine goesL_ (some 31) rfl rfl Try.func62 (by kernel_rfl) rfl #[.slice A0 l0.length c0, .int .i64 a1] rfl (by (try simp only [za, zc, zn]); first | done | rfl) ?_; (with_reducible refine (spec_l3Table.calls kj2 _ _ l0 a1 t680 _ ?side1 ?side2 A21.out).mono ?_); (case side1 => exact zC (Kd.C_below HR0.out HB.out)); (case side2 => exact HC0.out); rintro e w24 ⟨v681, rfl, ho0, hb⟩; refine ⟨_, rfl, ?_⟩; have HO682 := Aside0.mk (Kd.R_lower ho0 (zS HB.out)); replace HB := Aside0.mk (below_step (zB HB.out) hb); (try clear hb); (try clear hb2); (try clear hk); (try clear hi); (try clear ho0); obtain ⟨Ao25, co25, eo25⟩ := Kd.R_slice HO682.out; subst eo25; have p683 : 0 ≤ (a1 : Int) := of_decide_eq_true (by assumption); have q683 : a1 < (t680.length : Int) := of_decide_eq_true (by assumption); obtain ⟨ad683, e683, hx683_0⟩ := Kd.at_bool (Kd.R_reads' HO682.out).2.2 a1 p683 q683; cases e683; replace p683 := eq_true p683; replace q683 := eq_true q683)); go_ret
       exact ⟨by first | rfl | (simp [*, errW_none, errW_some] <;> rfl), zB HB.out⟩
     ·rw [if_neg c11] at H; have c11b0 : ((Int.tmod a1 t674) == 0) = false := beq_eq_false_iff_ne.mpr c11; have c11b1 : ((Int.tmod a1 t674) != 0) = true := bne_iff_ne.mpr c11; (first | rw [c11b0] | rw [c11b1] | (simp only [i64_w, i32_w]; rw [c11b0]) | skip); obtain rfl := Option.some.inj H; go_wp2; go_ret
      exact ⟨by first | rfl | (simp [*, errW_none, errW_some] <;> rfl), zB HB.out⟩

/-! ### impl_Contains: function 28 -/
def impl_Contains.f (k : Nat) (l0_0 : List Int) (a1 : Int) : Option (Bool) := if a1 < 0 then (some false) else ((impl_IsSemigroup.f k l0_0).bind fun t685 => (if t685 = true then (if a1 ≥ 200 then (some true) else (if 0 < (l0_0.length : Int) then ((impl_leasts.f k l0_0 (rd l0_0 0)).bind fun t687 => (if (rd l0_0 0) = 0 then (none) else (if 0 ≤ (Int.tmod a1 (rd l0_0 0)) then (if (Int.tmod a1 (rd l0_0 0)) < (t687.length : Int) then (some (decide ((rd t687 (Int.tmod a1 (rd l0_0 0))) ≤ a1))) else (none)) else (none)))) else (none))) else (some false)))
def impl_Contains.T3 : Bool × List (List Nat × List Nat) := (true, [([], []), ([0], [0]), ([1], [1]), ([2], [2]), ([3, 2], [2, 3]), ([2], [2]), ([5, 2], [2, 5]), ([6, 2], [2, 6]), ([7, 2], [2, 7]), ([4, 8, 2, 2], [2, 4, 8]), ([2], [2]), ([2], [2]), ([11, 2], [2, 11]), ([12, 2], [2, 12]), ([13, 2], [2, 13]), ([10, 14, 2], [2, 10, 14]), ([9, 15, 2], [2, 9, 15]), ([16, 2], [2, 16]), ([2], [2]), ([17, 18, 2], [2, 17, 18]), ([2, 19], [2, 19]), ([20, 9, 0, 1, 2, 3, 4, 5, 6, 7, 8, 9, 10, 11, 12, 13, 14, 15, 16, 17, 18, 19, 20], [20])])
def impl_Contains.B3 : List Nat := [0, 1, 3, 7, 15, 7, 39, 103, 231, 511, 7, 7, 2055, 6151, 14343, 31751, 65535, 131071, 7, 524287, 1048575, 2097151]
theorem impl_Contains.tab3 : rtab .any (opsOf Try.f28 3) = impl_Contains.T3 := by kernel_rfl
theorem impl_Contains.bits3 : waitsOk impl_Contains.T3.2 impl_Contains.B3 = true := by kernel_rfl
set_option maxHeartbeats 8000000 in
set_option maxRecDepth 100000 in
theorem impl_Contains.calls (k : Nat) (A0_0 : Option Addr) (c0_0 : Nat) (l0_0 : List Int) (a1 : Int) (r : Bool) (w : World) (hr0_0 : Kd.C (Kd.int .i64) w A0_0 l0_0.length l0_0) (hc0_0 : l0_0.length ≤ c0_0) (h : impl_Contains.f k l0_0 a1 = some r) :
  Calls Try.prog 28 #[.agg #[.slice A0_0 l0_0.length c0_0], .int .i64 a1] w fun e w' => e = .returned (.bool r) ∧ Below w.heap.size w w' := by
 have hu26 := Try.underlying26; have HR0_0 := Aside0.mk hr0_0; have HC0_0 := Aside0.mk hc0_0; clear hr0_0 hc0_0; have HB := Aside0.mk (Below.refl w.heap.size w); have H : (if a1 < 0 then (some false) else ((impl_IsSemigroup.f k l0_0).bind fun t685 => (if t685 = true then (if a1 ≥ 200 then (some true) else (if 0 < (l0_0.length : Int) then ((impl_leasts.f k l0_0 (rd l0_0 0)).bind fun t687 => (if (rd l0_0 0) = 0 then (none) else (if 0 ≤ (Int.tmod a1 (rd l0_0 0)) then (if (Int.tmod a1 (rd l0_0 0)) < (t687.length : Int) then (some (decide ((rd t687 (Int.tmod a1 (rd l0_0 0))) ≤ a1))) else (none)) else (none)))) else (none))) else (some false)))) = some r := h; clear h
 by_cases c3 : a1 < 0
 ·rw [if_pos c3] at H; have c3b0 : decide (a1 < 0) = true := decide_eq_true c3; clear c3; obtain rfl := Option.some.inj H; go_enter Try.func28, Try.ntmps28; go_wp2_with (first | ((with_reducible refine gate_dst (N := 2) rfl ?_); refine box_event ?hg (N := 2) ?hd (cs := #[.slice A0_0 l0_0.length c0_0]) (t := 26) ?hr ?_; (case hd => rfl); (case hg => rfl); (case hr => first | (go_simp; done) | (go_simp; rfl)); intro gb684 hg w4 hbox hb; have BK684 := Aside0.mk (hbox); have GW684 := Aside0.mk ((by rw [hg]; exact (zS HB.out) : w.heap.size ≤ gb684)); have GE684 := Aside0.mk ((by rw [hg]; exact (zS HB.out) : w.heap.size ≤ gb684)); replace HB := Aside0.mk (below_step (zB HB.out) hb); have := Ge.mk GE684.out; clear hb hbox hg)); go_ret
  exact ⟨by first | rfl | (simp [*, errW_none, errW_some] <;> rfl), zB HB.out⟩
 ·rw [if_neg c3] at H; have c3b0 : decide (a1 < 0) = false := decide_eq_false c3; clear c3; obtain ⟨t685, A5, H⟩ := zb H; have HU6 := Aside0.mk H; clear H; go_enter Try.func28, Try.ntmps28; go_upto_if 11 with (first | ((with_reducible refine gate_dst (N := 2) rfl ?_); refine box_event ?hg (N := 2) ?hd (cs := #[.slice A0_0 l0_0.length c0_0]) (t := 26) ?hr ?_; (case hd => rfl); (case hg => rfl); (case hr => first | (go_simp; done) | (go_simp; rfl)); intro gb684 hg w7 hbox hb; have BK684 := Aside0.mk (hbox); have GW684 := Aside0.mk ((by rw [hg]; exact (zS HB.out) : w.heap.size ≤ gb684)); have GE684 := Aside0.mk ((by rw [hg]; exact (zS HB.out) : w.heap.size ≤ gb684)); replace HB := Aside0.mk (below_step (zB HB.out) hb); have := Ge.mk GE684.out; clear hb hbox hg; have hcz8_0 : w7.cell? ⟨gb684, 0, none⟩ = some (.slice A0_0 l0_0.length c0_0) := (blk_cell BK684.out 0).trans rfl; have hfz8_0 := blk_frozen BK684.out 0) | (go_at_call 29; (with_reducible refine (impl_IsSemigroup.calls k _ _ l0_0 t685 _ ?side1 ?side2 A5.out).mono ?_); (case side1 => exact zC (Kd.C_below HR0_0.out HB.out)); (case side2 => exact HC0_0.out); rintro e w9 ⟨rfl, hb⟩; replace BK684 := Aside0.mk (blk_below (zk BK684.out) hb); replace HB := Aside0.mk (below_step (zB HB.out) hb); (try clear hb); (try clear hb2); (try clear hk); (try clear hi)))
  (try simp only [Act.put, List.setIfInBounds_toArray, List.set_cons_zero, List.set_cons_succ]); have H := HU6.out; clear HU6
  by_cases c10 : t685 = true
  ·subst c10; rw [zT] at H
   by_cases c11 : a1 ≥ 200
   ·rw [if_pos c11] at H; have c11b0 : decide (200 ≤ a1) = true := decide_eq_true c11; clear c11; (first | rw [c11b0] | rw [c11b1] | (simp only [i64_w, i32_w]; rw [c11b0]) | skip); obtain rfl := Option.some.inj H
    try go_wp2
    replace BK684 := Aside0.mk (blk_drew BK684.out); replace HB := Aside0.mk (below_drew1 HB.out); refine start_ (n := 22) (S := fun w' => True) (ds := []) bA3 (by kernel_rfl) rfl rfl trivial (fun hHeld => ?_); refine with_tabW impl_Contains.tab3 impl_Contains.bits3 (fun HT_ HW_ => ?_); generalize w9.drew = w12 at BK684 HB hHeld ⊢; refine zP 0 (some 12) ?_ bA21 rfl rfl HT_ ?_ ?_ ?_ ?_; rotate_left
    ·intro w'; go_simp; (with_reducible rfl)
    rotate_left
    ·simp only [Act.put, qA, qB, qC, i64_w]; rfl
    refine zP 1 (some 13) ?_ bA30 rfl rfl HT_ ?_ ?_ ?_ ?_; rotate_left
    ·intro w'; go_simp; (with_reducible rfl)
    rotate_left
    ·simp only [Act.put, qA, qB, qC, i64_w]; rfl
    refine zP 2 (some 14) ?_ bA40 rfl rfl HT_ ?_ ?_ ?_ ?_; rotate_left
    ·intro w'; go_simp; (with_reducible rfl)
    rotate_left
    ·simp only [Act.put, qA, qB, qC, i64_w]; rfl
    refine zU 3 (some 15) bA51 rfl rfl HT_ ?_ ?_ ?_; rotate_left
    ·simp only [Act.put, qA, qB, qC, i64_w]; rfl
    refine zu 4 (some 16) #[true, true, true, true, true, false, false, false, false, false, false, false, false, false, false, false, false, false, false, false, false, false] rfl rfl HT_ (by kernel_rfl) (fun _ _ _ h => h) (by rfl) ?_ ?_ ?_; rotate_left
    ·simp only [Act.put, qA, qB, qC, i64_w]; rfl
    refine zu 5 (some 17) #[true, true, true, true, true, true, false, false, false, false, false, false, false, false, false, false, false, false, false, false, false, false] rfl rfl HT_ (by kernel_rfl) (fun _ _ _ h => h) (by rfl) ?_ ?_ ?_; rotate_left
    ·simp only [Act.put, qA, qB, qC, i64_w]; rfl
    refine zu 6 (some 18) #[true, true, true, true, true, true, true, false, false, false, false, false, false, false, false, false, false, false, false, false, false, false] rfl rfl HT_ (by kernel_rfl) (fun _ _ _ h => h) (by rfl) ?_ ?_ ?_; rotate_left
    ·simp only [Act.put, qA, qB, qC, i64_w]; rfl
    refine zu 7 (some 19) #[true, true, true, true, true, true, true, true, false, false, false, false, false, false, false, false, false, false, false, false, false, false] rfl rfl HT_ (by kernel_rfl) (fun _ _ _ h => h) (by rfl) ?_ ?_ ?_; rotate_left
    ·simp only [Act.put, qA, qB, qC, i64_w]; rfl
    refine zu 8 (some 20) #[true, true, true, true, true, true, true, true, true, false, false, false, false, false, false, false, false, false, false, false, false, false] rfl rfl HT_ (by kernel_rfl) (fun _ _ _ h => h) (by rfl) ?_ ?_ ?_; rotate_left
    ·simp only [Act.put, qA, qB, qC, i64_w]; rfl
    refine zu 9 (some 21) #[true, true, true, true, true, true, true, true, true, true, false, false, false, false, false, false, false, false, false, false, false, false] rfl rfl HT_ (by kernel_rfl) (fun _ _ _ h => h) (by rfl) ?_ ?_ ?_; rotate_left
    ·simp only [Act.put, qA, qB, qC, i64_w]; rfl
    refine zu 10 (some 22) #[true, true, true, true, true, true, true, true, true, true, true, false, false, false, false, false, false, false, false, false, false, false] rfl rfl HT_ (by kernel_rfl) (fun _ _ _ h => h) (by rfl) ?_ ?_ ?_; rotate_left
    ·simp only [Act.put, qA, qB, qC, i64_w]; rfl
    refine zu 11 (some 23) #[true, true, true, true, true, true, true, true, true, true, true, true, false, false, false, false, false, false, false, false, false, false] rfl rfl HT_ (by kernel_rfl) (fun _ _ _ h => h) (by rfl) ?_ ?_ ?_; rotate_left
    ·simp only [Act.put, qA, qB, qC, i64_w]; rfl
    refine zu 12 (some 24) #[true, true, true, true, true, true, true, true, true, true, true, true, true, false, false, false, false, false, false, false, false, false] rfl rfl HT_ (by kernel_rfl) (fun _ _ _ h => h) (by rfl) ?_ ?_ ?_; rotate_left
    ·simp only [Act.put, qA, qB, qC, i64_w]; rfl
    refine zu 13 (some 25) #[true, true, true, true, true, true, true, true, true, true, true, true, true, true, false, false, false, false, false, false, false, false] rfl rfl HT_ (by kernel_rfl) (fun _ _ _ h => h) (by rfl) ?_ ?_ ?_; rotate_left
    ·simp only [Act.put, qA, qB, qC, i64_w]; rfl
    refine zu 14 (some 26) #[true, true, true, true, true, true, true, true, true, true, true, true, true, true, true, false, false, false, false, false, false, false] rfl rfl HT_ (by kernel_rfl) (fun _ _ _ h => h) (by rfl) ?_ ?_ ?_; rotate_left
    ·simp only [Act.put, qA, qB, qC, i64_w]; rfl
    refine zu 15 (some 27) #[true, true, true, true, true, true, true, true, true, true, true, true, true, true, true, true, false, false, false, false, false, false] rfl rfl HT_ (by kernel_rfl) (fun _ _ _ h => h) (by rfl) ?_ ?_ ?_; rotate_left
    ·simp only [Act.put, qA, qB, qC, i64_w]; rfl
    refine zu 16 (some 28) #[true, true, true, true, true, true, true, true, true, true, true, true, true, true, true, true, true, false, false, false, false, false] rfl rfl HT_ (by kernel_rfl) (fun _ _ _ h => h) (by rfl) ?_ ?_ ?_; rotate_left
    ·simp only [Act.put, qA, qB, qC, i64_w]; rfl
    refine zu 17 (some 29) #[true, true, true, true, true, true, true, true, true, true, true, true, true, true, true, true, true, true, false, false, false, false] rfl rfl HT_ (by kernel_rfl) (fun _ _ _ h => h) (by rfl) ?_ ?_ ?_; rotate_left
    ·simp only [Act.put, qA, qB, qC, i64_w]; rfl
    refine zU 18 (some 30) bA151 rfl rfl HT_ ?_ ?_ ?_; rotate_left
    ·simp only [Act.put, qA, qB, qC, i64_w]; rfl
    refine zU 19 (some 31) bA155 rfl rfl HT_ ?_ ?_ ?_; rotate_left
    ·simp only [Act.put, qA, qB, qC, i64_w]; rfl
    refine zP 20 (some 32) ?_ bA159 rfl rfl HT_ ?_ ?_ ?_ ?_; rotate_left
    ·intro w'; go_simp; (with_reducible rfl)
    rotate_left
    ·simp only [Act.put, qA, qB, qC, i64_w]; rfl
    refine zP 21 (some 4) ?_ bA217 rfl rfl HT_ ?_ ?_ ?_ ?_; rotate_left
    ·intro w'; go_simp; (with_reducible rfl)
    rotate_left
    ·simp only [Act.put, qA, qB, qC, i64_w]; rfl
    refine done_ (done_of HT_.out (by kernel_rfl)) ?_
    try go_wp2
    go_ret
    exact ⟨by first | rfl | (simp [*, errW_none, errW_some] <;> rfl), zB HB.out⟩
   ·rw [if_neg c11] at H; have c11b0 : decide (200 ≤ a1) = false := decide_eq_false c11; clear c11; (first | rw [c11b0] | rw [c11b1] | (simp only [i64_w, i32_w]; rw [c11b0]) | skip); obtain ⟨c13, H⟩ := zi H; have c13b0 : decide (0 < (l0_0.length : Int)) = true := decide_eq_true c13; have c13b1 : decide (0 < l0_0.length) = true := decide_eq_true (by omega); clear c13; obtain ⟨t687, A14, H⟩ := zb H
    by_cases c15 : (rd l0_0 0) = 0
    ·rw [if_pos c15] at H; exact absurd H (by simp)
    ·rw [if_neg c15] at H; have c15b0 : ((rd l0_0 0) == 0) = false := beq_eq_false_iff_ne.mpr c15; have c15b1 : ((rd l0_0 0) != 0) = true := bne_iff_ne.mpr c15; obtain ⟨ji16, hji16⟩ : ∃ j_ : Int, (Int.tmod a1 (rd l0_0 0)) = j_ := ⟨_, rfl⟩; replace H : (if 0 ≤ (ji16) then (if (ji16) < (t687.length : Int) then (some (decide ((rd t687 (ji16)) ≤ a1))) else (none)) else (none)) = some r := by first | (rw [hji16] at H; exact H) | (simp only [hji16] at H ⊢; exact H)
     (try rw [hji16] at A14); obtain ⟨c17, H⟩ := zi H; have c17b0 : decide (0 ≤ (ji16)) = true := decide_eq_true c17; clear c17; obtain ⟨c18, H⟩ := zi H; have c18b0 : decide ((ji16) < (t687.length : Int)) = true := decide_eq_true c18; clear c18; obtain rfl := Option.some.inj H
     try go_wp2
     replace BK684 := Aside0.mk (blk_drew BK684.out); replace HB := Aside0.mk (below_drew1 HB.out); have p686 : 0 ≤ (0 : Int) := (by omega); have q686 : 0 < (l0_0.length : Int) := of_decide_eq_true (by assumption); obtain ⟨ad686, e686, hx686_0⟩ := Kd.at_int HR0_0.out 0 p686 q686; have hw686_0 := hx686_0; (try rw [show ((0 : Int)).toNat = 0 from rfl] at hw686_0); (try rw [show 0 * 1 = 0 from rfl] at hw686_0); (try rw [Addr.add_zero'] at hw686_0)
     cases e686; have qi686 : (0 < l0_0.length) = True := eq_true (by omega); (try rw [show ((0 : Int)).toNat = 0 from rfl] at hx686_0); (try rw [Addr.add_zero'] at hx686_0); (try replace hx686_0 := (HB.out.cell (World.block_lt_of_cell? w _ hx686_0)).trans hx686_0); replace p686 := eq_true p686; replace q686 := eq_true q686; have p690 : 0 ≤ (0 : Int) := (by omega); have q690 : 0 < (l0_0.length : Int) := of_decide_eq_true (by assumption); obtain ⟨ad690, e690, hx690_0⟩ := Kd.at_int HR0_0.out 0 p690 q690; have hw690_0 := hx690_0; (try rw [show ((0 : Int)).toNat = 0 from rfl] at hw690_0); (try rw [show 0 * 1 = 0 from rfl] at hw690_0); (try rw [Addr.add_zero'] at hw690_0); obtain rfl : ad686 = ad690 := (by injection e690); have qi690 : (0 < l0_0.length) = True := eq_true (by omega); (try rw [show ((0 : Int)).toNat = 0 from rfl] at hx690_0); (try rw [Addr.add_zero'] at hx690_0); (try replace hx690_0 := (HB.out.cell (World.block_lt_of_cell? w _ hx690_0)).trans hx690_0); replace p690 := eq_true p690; replace q690 := eq_true q690; refine start_ (n := 22) (S := fun w' => w'.cell? ⟨gb684, 0, none⟩ = some (.slice (some ad686) l0_0.length c0_0) ∧ w'.cell? ad686 = some (.int .i64 (rd l0_0 0)) ∧ w'.cell? ad686 = some (.int .i64 (rd l0_0 0))) (ds := []) bA3 (by kernel_rfl) rfl rfl ⟨(blk_cell BK684.out 0).trans rfl, ((HB.out.cell (World.block_lt_of_cell? w _ hw686_0)).trans hw686_0), ((HB.out.cell (World.block_lt_of_cell? w _ hw690_0)).trans hw690_0)⟩ (fun hHeld => ?_); refine with_tabW impl_Contains.tab3 impl_Contains.bits3 (fun HT_ HW_ => ?_); generalize w9.drew = w19 at BK684 HB hx686_0 hx690_0 hHeld ⊢; refine zP 0 (some 12) ?_ bA21 rfl rfl HT_ ?_ ?_ ?_ ?_; rotate_left
     ·intro w'; go_simp; (with_reducible rfl)
     rotate_left
     ·simp only [Act.put, qA, qB, qC, i64_w]; rfl
     refine zP 1 (some 13) ?_ bA30 rfl rfl HT_ ?_ ?_ ?_ ?_; rotate_left
     ·intro w'; go_simp; (with_reducible rfl)
     rotate_left
     ·simp only [Act.put, qA, qB, qC, i64_w]; rfl
     refine zP 2 (some 14) ?_ bA40 rfl rfl HT_ ?_ ?_ ?_ ?_; rotate_left
     ·intro w'; go_simp; (with_reducible rfl)
     rotate_left
     ·simp only [Act.put, qA, qB, qC, i64_w]; rfl
     refine zP 3 (some 15) ?_ bA51 rfl rfl HT_ ?_ ?_ ?_ ?_; rotate_left
     ·intro w'; go_simp; (with_reducible rfl)
     rotate_left
     ·simp only [Act.put, qA, qB, qC, i64_w]; rfl
     refine zp 5 (some 17) ?_ #[true, true, true, true, false, true, false, false, false, false, false, false, false, false, false, false, false, false, false, false, false, false] rfl rfl HT_ (by kernel_rfl) (fun _ _ _ h => h) (by rfl) ?_ ?_ ?_ ?_; rotate_left
     ·intro w'; go_simp; (with_reducible rfl)
     rotate_left
     ·simp only [Act.put, qA, qB, qC, i64_w]; rfl
     refine zp 10 (some 22) ?_ #[true, true, true, true, false, true, false, false, false, false, true, false, false, false, false, false, false, false, false, false, false, false] rfl rfl HT_ (by kernel_rfl) (fun _ _ _ h => h) (by rfl) ?_ ?_ ?_ ?_; rotate_left
     ·intro w'; go_simp; (with_reducible rfl)
     rotate_left
     ·simp only [Act.put, qA, qB, qC, i64_w]; rfl
     refine zp 11 (some 23) ?_ #[true, true, true, true, false, true, false, false, false, false, true, true, false, false, false, false, false, false, false, false, false, false] rfl rfl HT_ (by kernel_rfl) (fun _ _ _ h => h) (by rfl) ?_ ?_ ?_ ?_; rotate_left
     ·intro w'; go_simp; (with_reducible rfl)
     rotate_left
     ·simp only [Act.put, qA, qB, qC, i64_w]; rfl
     refine zp 18 (some 30) ?_ #[true, true, true, true, false, true, false, false, false, false, true, true, false, false, false, false, false, false, true, false, false, false] rfl rfl HT_ (by kernel_rfl) (fun _ _ _ h => h) (by rfl) ?_ ?_ ?_ ?_; rotate_left
     ·intro w'; go_simp; (with_reducible rfl)
     rotate_left
     ·simp only [Act.put, qA, qB, qC, i64_w]; rfl
     refine zt 4 (some 16) ?_ #[true, true, true, true, true, true, false, false, false, false, true, true, false, false, false, false, false, false, true, false, false, false] rfl rfl HT_ HW_ (by kernel_rfl) (fun _ _ _ h => h) (by rfl) ?_ hHeld ?_ ?_ ?_; rotate_left
     ·rintro w' ⟨s0, s1, s2⟩; go_simp; (with_reducible rfl)
     rotate_left
     ·simp only [Act.put, qA, qB, qC, i64_w]; rfl
     refine zt 6 (some 18) ?_ #[true, true, true, true, true, true, true, false, false, false, true, true, false, false, false, false, false, false, true, false, false, false] rfl rfl HT_ HW_ (by kernel_rfl) (fun _ _ _ h => h) (by rfl) ?_ hHeld ?_ ?_ ?_; rotate_left
     ·rintro w' ⟨s0, s1, s2⟩; go_simp; (with_reducible rfl)
     rotate_left
     ·simp only [Act.put, qA, qB, qC, i64_w]; rfl
     refine zp 7 (some 19) ?_ #[true, true, true, true, true, true, true, true, false, false, true, true, false, false, false, false, false, false, true, false, false, false] rfl rfl HT_ (by kernel_rfl) (fun _ _ _ h => h) (by rfl) ?_ ?_ ?_ ?_; rotate_left
     ·intro w'; go_simp; (with_reducible rfl)
     rotate_left
     ·simp only [Act.put, qA, qB, qC, i64_w]; rfl
     refine zt 8 (some 20) ?_ #[true, true, true, true, true, true, true, true, true, false, true, true, false, false, false, false, false, false, true, false, false, false] rfl rfl HT_ HW_ (by kernel_rfl) (fun _ _ _ h => h) (by rfl) ?_ hHeld ?_ ?_ ?_; rotate_left
     ·rintro w' ⟨s0, s1, s2⟩; go_simp; (with_reducible rfl)
     rotate_left
     ·simp only [Act.put, qA, qB, qC, i64_w]; rfl
     refine zt 12 (some 24) ?_ #[true, true, true, true, true, true, true, true, true, false, true, true, true, false, false, false, false, false, true, false, false, false] rfl rfl HT_ HW_ (by kernel_rfl) (fun _ _ _ h => h) (by rfl) ?_ hHeld ?_ ?_ ?_; rotate_left
     ·rintro w' ⟨s0, s1, s2⟩; go_simp; (with_reducible rfl)
     rotate_left
     ·simp only [Act.put, qA, qB, qC, i64_w]; rfl
     refine zp 13 (some 25) ?_ #[true, true, true, true, true, true, true, true, true, false, true, true, true, true, false, false, false, false, true, false, false, false] rfl rfl HT_ (by kernel_rfl) (fun _ _ _ h => h) (by rfl) ?_ ?_ ?_ ?_; rotate_left
     ·intro w'; go_simp; (with_reducible rfl)
     rotate_left
     ·simp only [Act.put, qA, qB, qC, i64_w]; rfl
     refine zt 14 (some 26) ?_ #[true, true, true, true, true, true, true, true, true, false, true, true, true, true, true, false, false, false, true, false, false, false] rfl rfl HT_ HW_ (by kernel_rfl) (fun _ _ _ h => h) (by rfl) ?_ hHeld ?_ ?_ ?_; rotate_left
     ·rintro w' ⟨s0, s1, s2⟩; go_simp; (with_reducible rfl)
     rotate_left
     ·simp only [Act.put, qA, qB, qC, i64_w]; rfl
     refine zp 15 (some 27) ?_ #[true, true, true, true, true, true, true, true, true, false, true, true, true, true, true, true, false, false, true, false, false, false] rfl rfl HT_ (by kernel_rfl) (fun _ _ _ h => h) (by rfl) ?_ ?_ ?_ ?_; rotate_left
     ·intro w'; go_simp; (with_reducible rfl)
     rotate_left
     ·simp only [Act.put, qA, qB, qC, i64_w]; rfl
     refine one_ (i := 9) (N := some 21) #[true, true, true, true, true, true, true, true, true, true, true, true, true, true, true, true, false, false, true, false, false, false] rfl rfl (one_of HT_.out (by kernel_rfl)) (by decide) (fun K hK => ?_); refine goes_ Try.func60 (by kernel_rfl) rfl #[.slice (some ad686) l0_0.length c0_0, .int .i64 (rd l0_0 0)] (by rfl) rfl rfl (by (try simp only [za, zc, zn]); first | done | rfl) ?_; (with_reducible refine (impl_leasts.calls k _ _ l0_0 (rd l0_0 0) t687 _ ?side1 ?side2 A14.out).mono ?_); (case side1 => exact zC (Kd.C_below HR0_0.out HB.out)); (case side2 => exact HC0_0.out); rintro e w20 ⟨v688, rfl, ho0, hb⟩

     refine ⟨_, rfl, ?_⟩; have HO689 := Aside0.mk (Kd.R_lower ho0 (zS HB.out)); replace BK684 := Aside0.mk (blk_below (zk BK684.out) hb); replace HB := Aside0.mk (below_step (zB HB.out) hb); (try clear hb); (try clear hb2); (try clear hk); (try clear hi); (try clear ho0); obtain ⟨Ao21, co21, eo21⟩ := Kd.R_slice HO689.out; (first | subst eo21 | (injection eo21 with f1_ f2_ f3_; have f4_ := f1_.symm; have f5_ := f3_.symm; clear f1_ f2_ f3_; subst f4_; subst f5_)); have p691 : 0 ≤ ((ji16) : Int) := of_decide_eq_true (by assumption); have q691 : (ji16) < (t687.length : Int) := of_decide_eq_true (by assumption); obtain ⟨ad691, e691, hx691_0⟩ := Kd.at_int (Kd.R_reads' HO689.out).2.2 (ji16) p691 q691
     cases e691; replace p691 := eq_true p691; replace q691 := eq_true q691; refine hK.out _ _ ⟨(blk_cell BK684.out 0).trans rfl, ((HB.out.cell (World.block_lt_of_cell? w _ hw686_0)).trans hw686_0), ((HB.out.cell (World.block_lt_of_cell? w _ hw690_0)).trans hw690_0)⟩ (fun hHeld => ?_); clear hK K; refine norm_ (a' := ?_) ?_ ?_; rotate_left
     ·show Act.put _ (some 21) _ = _; simp only [Act.put, qA, qB, qC, i64_w]; rfl
     refine zp 16 (some 28) ?_ #[true, true, true, true, true, true, true, true, true, true, true, true, true, true, true, true, true, false, true, false, false, false] rfl rfl HT_ (by kernel_rfl) (fun _ _ _ h => h) (by rfl) ?_ ?_ ?_ ?_; rotate_left
     ·intro w'; go_simp; (with_reducible rfl)
     rotate_left
     ·simp only [Act.put, qA, qB, qC, i64_w]; rfl
     refine one_ (i := 17) (N := some 29) bA151 rfl rfl (one_of HT_.out (by kernel_rfl)) (by decide) (fun K hK => ?_); rw [if_pos (by rfl)]; go_simp; refine hK.out _ _ hHeld (fun hHeld => ?_); clear hK K; refine zP 19 (some 31) ?_ bA155 rfl rfl HT_ ?_ ?_ ?_ ?_; rotate_left
     ·intro w'; go_simp; (with_reducible rfl)
     rotate_left
     ·simp only [Act.put, qA, qB, qC, i64_w]; rfl
     refine zP 20 (some 32) ?_ bA159 rfl rfl HT_ ?_ ?_ ?_ ?_; rotate_left
     ·intro w'; go_simp; (with_reducible rfl)
     rotate_left
     ·simp only [Act.put, qA, qB, qC, i64_w]; rfl
     refine zP 21 (some 4) ?_ bA217 rfl rfl HT_ ?_ ?_ ?_ ?_; rotate_left
     ·intro w'; go_simp; (with_reducible rfl)
     rotate_left
     ·simp only [Act.put, qA, qB, qC, i64_w]; rfl
     refine done_ (done_of HT_.out (by kernel_rfl)) ?_
     try go_wp2
     go_ret
     exact ⟨by first | rfl | (simp [errW_none, errW_some] <;> rfl) | (simp only [← hji16]; first | rfl | (simp [errW_none, errW_some] <;> rfl)) | (simp [*, errW_none, errW_some] <;> rfl), zB HB.out⟩
  ·replace c10 := Bool.eq_false_iff.mpr c10; subst c10; rw [zF] at H; obtain rfl := Option.some.inj H; go_wp2; go_ret
   exact ⟨by first | rfl | (simp [*, errW_none, errW_some] <;> rfl), zB HB.out⟩

/-! ### slices_Equal_int_int: function 44 -/
def slices_Equal_int_int.l0 : Nat → List Int → List Int → Int → Int → Option (Bool)
 | 0, _, _, _, _ => none
 | k + 1, x0, x1, x12, x13 => if x13 < x12 then (if 0 ≤ x13 then (if x13 < (x0.length : Int) then (if x13 < (x1.length : Int) then (if (rd x0 x13) = (rd x1 x13) then (slices_Equal_int_int.l0 k x0 x1 x12 (wrap64 (x13 + 1))) else (some false)) else (none)) else (none)) else (none)) else (some true)
def slices_Equal_int_int.f (k : Nat) (l0 : List Int) (l1 : List Int) : Option (Bool) := if (l0.length : Int) = (l1.length : Int) then (slices_Equal_int_int.l0 k l0 l1 (l0.length : Int) 0) else (some false)
set_option maxHeartbeats 8000000 in
set_option maxRecDepth 100000 in
theorem slices_Equal_int_int.calls (k : Nat) (A0 : Option Addr) (c0 : Nat) (l0 : List Int) (A1 : Option Addr) (c1 : Nat) (l1 : List Int) (r : Bool) (w : World) (hr0 : Kd.C (Kd.int .i64) w A0 l0.length l0) (hc0 : l0.length ≤ c0) (hr1 : Kd.C (Kd.int .i64) w A1 l1.length l1) (hc1 : l1.length ≤ c1) (h : slices_Equal_int_int.f k l0 l1 = some r) :
  Calls Try.prog 44 #[.slice A0 l0.length c0, .slice A1 l1.length c1] w fun e w' => e = .returned (.bool r) ∧ Drawn0 w w' := by
 have HR0 := Aside0.mk hr0; have HC0 := Aside0.mk hc0; clear hr0 hc0; have HR1 := Aside0.mk hr1; have HC1 := Aside0.mk hc1; clear hr1 hc1; have H : (if (l0.length : Int) = (l1.length : Int) then (slices_Equal_int_int.l0 k l0 l1 (l0.length : Int) 0) else (some false)) = some r := h; clear h
 by_cases c3 : (l0.length : Int) = (l1.length : Int)
 ·rw [if_pos c3] at H; have c3b0 : ((l0.length : Int) == (l1.length : Int)) = true := beq_iff_eq.mpr c3; have c3b1 : ((l0.length : Int) != (l1.length : Int)) = false := bne_eq_false_iff_eq.mpr c3; have c3b2 : (l0.length == l1.length) = true := by first | simpa using c3 | (simp at c3 ⊢; omega)
  clear c3; have H' := Aside0.mk H; clear H; go_enter Try.func44, Try.ntmps44; go_wp2
  repeat (go_quiet (fail); try go_wp2)
  go_loopg [13] k (fun kq v13 w' => ∃ (x13_1 : Int), v13 = .int .i64 x13_1 ∧ Aside0 (slices_Equal_int_int.l0 kq l0 l1 (l0.length : Int) x13_1 = some r) ∧ Aside0 (kq ≤ k) ∧ Drawn0 w w')
  case atStart => exact ⟨(0), (by first | rfl | (simp; done) | (simp [*]; done)), H', ⟨Nat.le_refl _⟩, by repeat (first | exact Drawn0.refl _ | apply Drawn0.step)⟩
  case round =>
   clear H'
   try clear c3b0 c3b1 c3b2
   obtain ⟨x13_1, rfl, HA, HK1, ⟨m1, rfl⟩⟩ := hrel
   cases gk with
   | zero => exact absurd HA.out (by simp [slices_Equal_int_int.l0])
   | succ k1 =>
    have H := HA.out; clear HA; simp only [slices_Equal_int_int.l0] at H
    by_cases c4 : x13_1 < (l0.length : Int)
    ·rw [if_pos c4] at H; have c4b0 : decide (x13_1 < (l0.length : Int)) = true := decide_eq_true c4; clear c4; obtain ⟨c5, H⟩ := zi H; have c5b0 : decide (0 ≤ x13_1) = true := decide_eq_true c5; clear c5; obtain ⟨c6, H⟩ := zi H; have c6b0 : decide (x13_1 < (l0.length : Int)) = true := decide_eq_true c6; clear c6; obtain ⟨c7, H⟩ := zi H; have c7b0 : decide (x13_1 < (l1.length : Int)) = true := decide_eq_true c7; clear c7
     by_cases c8 : (rd l0 x13_1) = (rd l1 x13_1)
     ·rw [if_pos c8] at H; have c8b0 : ((rd l0 x13_1) == (rd l1 x13_1)) = true := beq_iff_eq.mpr c8; have c8b1 : ((rd l0 x13_1) != (rd l1 x13_1)) = false := bne_eq_false_iff_eq.mpr c8; clear c8; have H' := Aside0.mk H; clear H; have p692 : 0 ≤ (x13_1 : Int) := of_decide_eq_true (by assumption); have q692 : x13_1 < (l0.length : Int) := of_decide_eq_true (by assumption); obtain ⟨ad692, e692, hx692_0⟩ := Kd.at_int HR0.out x13_1 p692 q692
      cases e692; replace p692 := eq_true p692; replace q692 := eq_true q692; have p693 : 0 ≤ (x13_1 : Int) := of_decide_eq_true (by assumption); have q693 : x13_1 < (l1.length : Int) := of_decide_eq_true (by assumption); obtain ⟨ad693, e693, hx693_0⟩ := Kd.at_int HR1.out x13_1 p693 q693
      cases e693; replace p693 := eq_true p693; replace q693 := eq_true q693; go_wp2
      repeat (go_quiet (fail); try go_wp2)
      go_roundg k1
      case measure => have := HK1.out; omega
      case rel => exact ⟨(wrap64 (x13_1 + 1)), (by first | rfl | (simp; done) | (simp [*]; done)), H', ⟨by have := HK1.out; omega⟩, by repeat (first | exact Drawn0.refl _ | apply Drawn0.step)⟩
     ·rw [if_neg c8] at H; have c8b0 : ((rd l0 x13_1) == (rd l1 x13_1)) = false := beq_eq_false_iff_ne.mpr c8; have c8b1 : ((rd l0 x13_1) != (rd l1 x13_1)) = true := bne_iff_ne.mpr c8; obtain rfl := Option.some.inj H; have p692 : 0 ≤ (x13_1 : Int) := of_decide_eq_true (by assumption); have q692 : x13_1 < (l0.length : Int) := of_decide_eq_true (by assumption); obtain ⟨ad692, e692, hx692_0⟩ := Kd.at_int HR0.out x13_1 p692 q692
      cases e692; replace p692 := eq_true p692; replace q692 := eq_true q692; have p693 : 0 ≤ (x13_1 : Int) := of_decide_eq_true (by assumption); have q693 : x13_1 < (l1.length : Int) := of_decide_eq_true (by assumption); obtain ⟨ad693, e693, hx693_0⟩ := Kd.at_int HR1.out x13_1 p693 q693
      cases e693; replace p693 := eq_true p693; replace q693 := eq_true q693; go_wp2
      repeat (go_quiet (fail); try go_wp2)
      go_ret
      exact ⟨by first | rfl | (simp; done) | (simp [*]; done), by repeat (first | exact Drawn0.refl _ | apply Drawn0.step)⟩
    ·rw [if_neg c4] at H; have c4b0 : decide (x13_1 < (l0.length : Int)) = false := decide_eq_false c4; clear c4; obtain rfl := Option.some.inj H; go_wp2
     repeat (go_quiet (fail); try go_wp2)
     go_ret
     exact ⟨by first | rfl | (simp; done) | (simp [*]; done), by repeat (first | exact Drawn0.refl _ | apply Drawn0.step)⟩
 ·rw [if_neg c3] at H; have c3b0 : ((l0.length : Int) == (l1.length : Int)) = false := beq_eq_false_iff_ne.mpr c3; have c3b1 : ((l0.length : Int) != (l1.length : Int)) = true := bne_iff_ne.mpr c3; have c3b2 : (l0.length == l1.length) = false := by first | simpa using c3 | (simp at c3 ⊢; omega)
  obtain rfl := Option.some.inj H; go_enter Try.func44, Try.ntmps44; go_wp2
  repeat (go_quiet (fail); try go_wp2)
  go_ret
  exact ⟨by first | rfl | (simp; done) | (simp [*]; done), by repeat (first | exact Drawn0.refl _ | apply Drawn0.step)⟩

/-! ### impl_EqualSemigroup: function 31 -/
def impl_EqualSemigroup.f (k : Nat) (l0_0 : List Int) (l1_0 : List Int) : Option (Bool) := (slices_Equal_int_int.f k l0_0 l1_0).bind fun t696 => (some t696)
set_option maxHeartbeats 8000000 in
set_option maxRecDepth 100000 in
theorem impl_EqualSemigroup.calls (k : Nat) (A0_0 : Option Addr) (c0_0 : Nat) (l0_0 : List Int) (A1_0 : Option Addr) (c1_0 : Nat) (l1_0 : List Int) (r : Bool) (w : World) (hr0_0 : Kd.C (Kd.int .i64) w A0_0 l0_0.length l0_0) (hc0_0 : l0_0.length ≤ c0_0) (hr1_0 : Kd.C (Kd.int .i64) w A1_0 l1_0.length l1_0) (hc1_0 : l1_0.length ≤ c1_0) (h : impl_EqualSemigroup.f k l0_0 l1_0 = some r) :
  Calls Try.prog 31 #[.agg #[.slice A0_0 l0_0.length c0_0], .agg #[.slice A1_0 l1_0.length c1_0]] w fun e w' => e = .returned (.bool r) ∧ Below w.heap.size w w' := by
 have hu26 := Try.underlying26; have HR0_0 := Aside0.mk hr0_0; have HC0_0 := Aside0.mk hc0_0; clear hr0_0 hc0_0; have HR1_0 := Aside0.mk hr1_0; have HC1_0 := Aside0.mk hc1_0; clear hr1_0 hc1_0; have HB := Aside0.mk (Below.refl w.heap.size w); have H : ((slices_Equal_int_int.f k l0_0 l1_0).bind fun t696 => (some t696)) = some r := h; clear h; obtain ⟨t696, A3, H⟩ := zb H; obtain rfl := Option.some.inj H; go_enter Try.func31, Try.ntmps31; go_wp2_with (first | ((with_reducible refine gate_dst (N := 2) rfl ?_); refine box_event ?hg (N := 2) ?hd (cs := #[.slice A0_0 l0_0.length c0_0]) (t := 26) ?hr ?_; (case hd => rfl); (case hg => rfl); (case hr => first | (go_simp; done) | (go_simp; rfl)); intro gb694 hg w4 hbox hb; have BK694 := Aside0.mk (hbox); have GW694 := Aside0.mk ((by rw [hg]; exact (zS HB.out) : w.heap.size ≤ gb694)); have GE694 := Aside0.mk ((by rw [hg]; exact (zS HB.out) : w.heap.size ≤ gb694)); replace HB := Aside0.mk (below_step (zB HB.out) hb); have := Ge.mk GE694.out; clear hb hbox hg) | ((with_reducible refine gate_dst (N := 3) rfl ?_); refine box_event ?hg (N := 3) ?hd (cs := #[.slice A1_0 l1_0.length c1_0]) (t := 26) ?hr ?_; (case hd => rfl); (case hg => rfl); (case hr => first | (go_simp; done) | (go_simp; rfl)); intro gb695 hg w5 hbox hb; have BK695 := Aside0.mk (hbox); have GW695 := Aside0.mk ((by rw [hg]; exact (zS HB.out) : w.heap.size ≤ gb695)); have GE695 := Aside0.mk ((by rw [hg]; exact (zS HB.out) : w.heap.size ≤ gb695)); replace HB := Aside0.mk (below_step (zB HB.out) hb); have NB694_695 := Aside0.mk ((by rw [hg]; exact Nat.ne_of_lt (blk_lt (g := gb694) (o := .cells #[.slice A0_0 l0_0.length c0_0] 26 (0, 0)) (zk BK694.out)) : gb694 ≠ gb695)); have NB695_694 := Aside0.mk ((by rw [hg]; exact Nat.ne_of_gt (blk_lt (g := gb694) (o := .cells #[.slice A0_0 l0_0.length c0_0] 26 (0, 0)) (zk BK694.out)) : gb695 ≠ gb694)); replace BK694 := Aside0.mk (blk_below (zk BK694.out) hb); have := Ge.mk GE695.out; clear hb hbox hg; have hnb6 := NB694_695.out; have hnc6 := NB695_694.out; have hcz7_0 : w5.cell? ⟨gb694, 0, none⟩ = some (.slice A0_0 l0_0.length c0_0) := (blk_cell BK694.out 0).trans rfl; have hfz7_0 := blk_frozen BK694.out 0; have hcz8_0 : w5.cell? ⟨gb695, 0, none⟩ = some (.slice A1_0 l1_0.length c1_0) := (blk_cell BK695.out 0).trans rfl; have hfz8_0 := blk_frozen BK695.out 0) | ((with_reducible refine gate_callee (f := 44) rfl ?_); refine goesL_ (some 9) rfl rfl Try.func44 (by kernel_rfl) rfl #[.slice A0_0 l0_0.length c0_0, .slice A1_0 l1_0.length c1_0] rfl (by (try simp only [za, zc, zn]); first | done | rfl) ?_; (with_reducible refine (slices_Equal_int_int.calls k _ _ l0_0 _ _ l1_0 t696 _ ?side1 ?side2 ?side3 ?side4 A3.out).mono ?_); (case side1 => exact zC (Kd.C_below HR0_0.out HB.out)); (case side2 => exact HC0_0.out); (case side3 => exact zC (Kd.C_below HR1_0.out HB.out)); (case side4 => exact HC1_0.out); rintro e w' ⟨rfl, ⟨nd, rfl⟩⟩; refine ⟨_, rfl, ?_⟩)); go_ret
 exact ⟨by first | rfl | (simp [*, errW_none, errW_some] <;> rfl), zB HB.out⟩

/-! ### impl_MultiplicityOf: function 32 -/
def impl_MultiplicityOf.f (k : Nat) (l0_0 : List Int) : Option (Int) := (impl_IsSemigroup.f k l0_0).bind fun t698 => (if t698 = true then (if 0 < (l0_0.length : Int) then (some (rd l0_0 0)) else (none)) else (some 0))
set_option maxHeartbeats 8000000 in
set_option maxRecDepth 100000 in
theorem impl_MultiplicityOf.calls (k : Nat) (A0_0 : Option Addr) (c0_0 : Nat) (l0_0 : List Int) (r : Int) (w : World) (hr0_0 : Kd.C (Kd.int .i64) w A0_0 l0_0.length l0_0) (hc0_0 : l0_0.length ≤ c0_0) (h : impl_MultiplicityOf.f k l0_0 = some r) :
  Calls Try.prog 32 #[.agg #[.slice A0_0 l0_0.length c0_0]] w fun e w' => e = .returned (.int .i64 r) ∧ Below w.heap.size w w' := by
 have hu26 := Try.underlying26; have HR0_0 := Aside0.mk hr0_0; have HC0_0 := Aside0.mk hc0_0; clear hr0_0 hc0_0; have HB := Aside0.mk (Below.refl w.heap.size w); have H : ((impl_IsSemigroup.f k l0_0).bind fun t698 => (if t698 = true then (if 0 < (l0_0.length : Int) then (some (rd l0_0 0)) else (none)) else (some 0))) = some r := h; clear h; obtain ⟨t698, A2, H⟩ := zb H; have HU3 := Aside0.mk H; clear H; go_enter Try.func32, Try.ntmps32; go_upto_if 5 with (first | ((with_reducible refine gate_dst (N := 1) rfl ?_); refine box_event ?hg (N := 1) ?hd (cs := #[.slice A0_0 l0_0.length c0_0]) (t := 26) ?hr ?_; (case hd => rfl); (case hg => rfl); (case hr => first | (go_simp; done) | (go_simp; rfl)); intro gb697 hg w4 hbox hb; have BK697 := Aside0.mk (hbox); have GW697 := Aside0.mk ((by rw [hg]; exact (zS HB.out) : w.heap.size ≤ gb697)); have GE697 := Aside0.mk ((by rw [hg]; exact (zS HB.out) : w.heap.size ≤ gb697)); replace HB := Aside0.mk (below_step (zB HB.out) hb); have := Ge.mk GE697.out; clear hb hbox hg; have hcz5_0 : w4.cell? ⟨gb697, 0, none⟩ = some (.slice A0_0 l0_0.length c0_0) := (blk_cell BK697.out 0).trans rfl; have hfz5_0 := blk_frozen BK697.out 0) | ((with_reducible refine gate_callee (f := 29) rfl ?_); refine goesL_ (some 4) rfl rfl Try.func29 (by kernel_rfl) rfl #[.agg #[.slice A0_0 l0_0.length c0_0]] rfl (by (try simp only [za, zc, zn]); first | done | rfl) ?_; (with_reducible refine (impl_IsSemigroup.calls k _ _ l0_0 t698 _ ?side1 ?side2 A2.out).mono ?_); (case side1 => exact zC (Kd.C_below HR0_0.out HB.out)); (case side2 => exact HC0_0.out); rintro e w6 ⟨rfl, hb⟩; refine ⟨_, rfl, ?_⟩; replace BK697 := Aside0.mk (blk_below (zk BK697.out) hb); replace HB := Aside0.mk (below_step (zB HB.out) hb); (try clear hb); (try clear hb2); (try clear hk); (try clear hi)))
 (try simp only [Act.put, List.setIfInBounds_toArray, List.set_cons_zero, List.set_cons_succ]); have H := HU3.out; clear HU3
 by_cases c7 : t698 = true
 ·subst c7; rw [zT] at H; obtain ⟨c8, H⟩ := zi H; have c8b0 : decide (0 < (l0_0.length : Int)) = true := decide_eq_true c8; have c8b1 : decide (0 < l0_0.length) = true := decide_eq_true (by omega); clear c8; (first | rw [c8b0] | rw [c8b1] | (simp only [i64_w, i32_w]; rw [c8b0]) | skip); obtain rfl := Option.some.inj H; have hcz9_0 : w6.cell? ⟨gb697, 0, none⟩ = some (.slice A0_0 l0_0.length c0_0) := (blk_cell BK697.out 0).trans rfl; have hfz9_0 := blk_frozen BK697.out 0; have p699 : 0 ≤ (0 : Int) := (by omega); have q699 : 0 < (l0_0.length : Int) := of_decide_eq_true (by assumption); obtain ⟨ad699, e699, hx699_0⟩ := Kd.at_int HR0_0.out 0 p699 q699
  cases e699; have qi699 : (0 < l0_0.length) = True := eq_true (by omega); (try rw [show ((0 : Int)).toNat = 0 from rfl] at hx699_0); (try rw [Addr.add_zero'] at hx699_0); (try replace hx699_0 := (HB.out.cell (World.block_lt_of_cell? w _ hx699_0)).trans hx699_0); replace p699 := eq_true p699; replace q699 := eq_true q699; go_wp2; go_ret
  exact ⟨by first | rfl | (simp [*, errW_none, errW_some] <;> rfl), zB HB.out⟩
 ·replace c7 := Bool.eq_false_iff.mpr c7; subst c7; rw [zF] at H; obtain rfl := Option.some.inj H; go_wp2; go_ret
  exact ⟨by first | rfl | (simp [*, errW_none, errW_some] <;> rfl), zB HB.out⟩

/-! ### spec_MultiplicityOf: function 33 -/
def spec_MultiplicityOf.f (k : Nat) (l0_0 : List Int) : Option (Int) := (spec_IsSemigroup.f k l0_0).bind fun t701 => (if t701 = true then (if 0 < (l0_0.length : Int) then (some (rd l0_0 0)) else (none)) else (some 0))
set_option maxHeartbeats 8000000 in
set_option maxRecDepth 100000 in
theorem spec_MultiplicityOf.calls (k : Nat) (A0_0 : Option Addr) (c0_0 : Nat) (l0_0 : List Int) (r : Int) (w : World) (hr0_0 : Kd.C (Kd.int .i64) w A0_0 l0_0.length l0_0) (hc0_0 : l0_0.length ≤ c0_0) (h : spec_MultiplicityOf.f k l0_0 = some r) :
  Calls Try.prog 33 #[.agg #[.slice A0_0 l0_0.length c0_0]] w fun e w' => e = .returned (.int .i64 r) ∧ Below w.heap.size w w' := by
 have hu26 := Try.underlying26; have HR0_0 := Aside0.mk hr0_0; have HC0_0 := Aside0.mk hc0_0; clear hr0_0 hc0_0; have HB := Aside0.mk (Below.refl w.heap.size w); have H : ((spec_IsSemigroup.f k l0_0).bind fun t701 => (if t701 = true then (if 0 < (l0_0.length : Int) then (some (rd l0_0 0)) else (none)) else (some 0))) = some r := h; clear h; obtain ⟨t701, A2, H⟩ := zb H; have HU3 := Aside0.mk H; clear H; go_enter Try.func33, Try.ntmps33; go_upto_if 5 with (first | ((with_reducible refine gate_dst (N := 1) rfl ?_); refine box_event ?hg (N := 1) ?hd (cs := #[.slice A0_0 l0_0.length c0_0]) (t := 26) ?hr ?_; (case hd => rfl); (case hg => rfl); (case hr => first | (go_simp; done) | (go_simp; rfl)); intro gb700 hg w4 hbox hb; have BK700 := Aside0.mk (hbox); have GW700 := Aside0.mk ((by rw [hg]; exact (zS HB.out) : w.heap.size ≤ gb700)); have GE700 := Aside0.mk ((by rw [hg]; exact (zS HB.out) : w.heap.size ≤ gb700)); replace HB := Aside0.mk (below_step (zB HB.out) hb); have := Ge.mk GE700.out; clear hb hbox hg; have hcz5_0 : w4.cell? ⟨gb700, 0, none⟩ = some (.slice A0_0 l0_0.length c0_0) := (blk_cell BK700.out 0).trans rfl; have hfz5_0 := blk_frozen BK700.out 0) | ((with_reducible refine gate_callee (f := 30) rfl ?_); refine goesL_ (some 4) rfl rfl Try.func30 (by kernel_rfl) rfl #[.agg #[.slice A0_0 l0_0.length c0_0]] rfl (by (try simp only [za, zc, zn]); first | done | rfl) ?_; (with_reducible refine (spec_IsSemigroup.calls k _ _ l0_0 t701 _ ?side1 ?side2 A2.out).mono ?_); (case side1 => exact zC (Kd.C_below HR0_0.out HB.out)); (case side2 => exact HC0_0.out); rintro e w6 ⟨rfl, hb⟩; refine ⟨_, rfl, ?_⟩; replace BK700 := Aside0.mk (blk_below (zk BK700.out) hb); replace HB := Aside0.mk (below_step (zB HB.out) hb); (try clear hb); (try clear hb2); (try clear hk); (try clear hi)))
 (try simp only [Act.put, List.setIfInBounds_toArray, List.set_cons_zero, List.set_cons_succ]); have H := HU3.out; clear HU3
 by_cases c7 : t701 = true
 ·subst c7; rw [zT] at H; obtain ⟨c8, H⟩ := zi H; have c8b0 : decide (0 < (l0_0.length : Int)) = true := decide_eq_true c8; have c8b1 : decide (0 < l0_0.length) = true := decide_eq_true (by omega); clear c8; (first | rw [c8b0] | rw [c8b1] | (simp only [i64_w, i32_w]; rw [c8b0]) | skip); obtain rfl := Option.some.inj H; have hcz9_0 : w6.cell? ⟨gb700, 0, none⟩ = some (.slice A0_0 l0_0.length c0_0) := (blk_cell BK700.out 0).trans rfl; have hfz9_0 := blk_frozen BK700.out 0; have p702 : 0 ≤ (0 : Int) := (by omega); have q702 : 0 < (l0_0.length : Int) := of_decide_eq_true (by assumption); obtain ⟨ad702, e702, hx702_0⟩ := Kd.at_int HR0_0.out 0 p702 q702
  cases e702; have qi702 : (0 < l0_0.length) = True := eq_true (by omega); (try rw [show ((0 : Int)).toNat = 0 from rfl] at hx702_0); (try rw [Addr.add_zero'] at hx702_0); (try replace hx702_0 := (HB.out.cell (World.block_lt_of_cell? w _ hx702_0)).trans hx702_0); replace p702 := eq_true p702; replace q702 := eq_true q702; go_wp2; go_ret
  exact ⟨by first | rfl | (simp [*, errW_none, errW_some] <;> rfl), zB HB.out⟩
 ·replace c7 := Bool.eq_false_iff.mpr c7; subst c7; rw [zF] at H; obtain rfl := Option.some.inj H; go_wp2; go_ret
  exact ⟨by first | rfl | (simp [*, errW_none, errW_some] <;> rfl), zB HB.out⟩

/-! ### impl_DimensionOf: function 34 -/
def impl_DimensionOf.f (k : Nat) (l0_0 : List Int) : Option (Int) := (impl_IsSemigroup.f k l0_0).bind fun t704 => (if t704 = true then (some (l0_0.length : Int)) else (some 0))
set_option maxHeartbeats 8000000 in
set_option maxRecDepth 100000 in
theorem impl_DimensionOf.calls (k : Nat) (A0_0 : Option Addr) (c0_0 : Nat) (l0_0 : List Int) (r : Int) (w : World) (hr0_0 : Kd.C (Kd.int .i64) w A0_0 l0_0.length l0_0) (hc0_0 : l0_0.length ≤ c0_0) (h : impl_DimensionOf.f k l0_0 = some r) :
  Calls Try.prog 34 #[.agg #[.slice A0_0 l0_0.length c0_0]] w fun e w' => e = .returned (.int .i64 r) ∧ Below w.heap.size w w' := by
 have hu26 := Try.underlying26; have HR0_0 := Aside0.mk hr0_0; have HC0_0 := Aside0.mk hc0_0; clear hr0_0 hc0_0; have HB := Aside0.mk (Below.refl w.heap.size w); have H : ((impl_IsSemigroup.f k l0_0).bind fun t704 => (if t704 = true then (some (l0_0.length : Int)) else (some 0))) = some r := h; clear h; obtain ⟨t704, A2, H⟩ := zb H; have HU3 := Aside0.mk H; clear H; go_enter Try.func34, Try.ntmps34; go_upto_if 5 with (first | ((with_reducible refine gate_dst (N := 1) rfl ?_); refine box_event ?hg (N := 1) ?hd (cs := #[.slice A0_0 l0_0.length c0_0]) (t := 26) ?hr ?_; (case hd => rfl); (case hg => rfl); (case hr => first | (go_simp; done) | (go_simp; rfl)); intro gb703 hg w4 hbox hb; have BK703 := Aside0.mk (hbox); have GW703 := Aside0.mk ((by rw [hg]; exact (zS HB.out) : w.heap.size ≤ gb703)); have GE703 := Aside0.mk ((by rw [hg]; exact (zS HB.out) : w.heap.size ≤ gb703)); replace HB := Aside0.mk (below_step (zB HB.out) hb); have := Ge.mk GE703.out; clear hb hbox hg; have hcz5_0 : w4.cell? ⟨gb703, 0, none⟩ = some (.slice A0_0 l0_0.length c0_0) := (blk_cell BK703.out 0).trans rfl; have hfz5_0 := blk_frozen BK703.out 0) | ((with_reducible refine gate_callee (f := 29) rfl ?_); refine goesL_ (some 4) rfl rfl Try.func29 (by kernel_rfl) rfl #[.agg #[.slice A0_0 l0_0.length c0_0]] rfl (by (try simp only [za, zc, zn]); first | done | rfl) ?_; (with_reducible refine (impl_IsSemigroup.calls k _ _ l0_0 t704 _ ?side1 ?side2 A2.out).mono ?_); (case side1 => exact zC (Kd.C_below HR0_0.out HB.out)); (case side2 => exact HC0_0.out); rintro e w6 ⟨rfl, hb⟩; refine ⟨_, rfl, ?_⟩; replace BK703 := Aside0.mk (blk_below (zk BK703.out) hb); replace HB := Aside0.mk (below_step (zB HB.out) hb); (try clear hb); (try clear hb2); (try clear hk); (try clear hi)))
 (try simp only [Act.put, List.setIfInBounds_toArray, List.set_cons_zero, List.set_cons_succ]); have H := HU3.out; clear HU3
 by_cases c7 : t704 = true
 ·subst c7; rw [zT] at H; obtain rfl := Option.some.inj H; have hcz8_0 : w6.cell? ⟨gb703, 0, none⟩ = some (.slice A0_0 l0_0.length c0_0) := (blk_cell BK703.out 0).trans rfl; have hfz8_0 := blk_frozen BK703.out 0; go_wp2; go_ret
  exact ⟨by first | rfl | (simp [*, errW_none, errW_some] <;> rfl), zB HB.out⟩
 ·replace c7 := Bool.eq_false_iff.mpr c7; subst c7; rw [zF] at H; obtain rfl := Option.some.inj H; go_wp2; go_ret
  exact ⟨by first | rfl | (simp [*, errW_none, errW_some] <;> rfl), zB HB.out⟩

/-! ### spec_DimensionOf: function 35 -/
def spec_DimensionOf.f (k : Nat) (l0_0 : List Int) : Option (Int) := (spec_IsSemigroup.f k l0_0).bind fun t706 => (if t706 = true then (some (l0_0.length : Int)) else (some 0))
set_option maxHeartbeats 8000000 in
set_option maxRecDepth 100000 in
theorem spec_DimensionOf.calls (k : Nat) (A0_0 : Option Addr) (c0_0 : Nat) (l0_0 : List Int) (r : Int) (w : World) (hr0_0 : Kd.C (Kd.int .i64) w A0_0 l0_0.length l0_0) (hc0_0 : l0_0.length ≤ c0_0) (h : spec_DimensionOf.f k l0_0 = some r) :
  Calls Try.prog 35 #[.agg #[.slice A0_0 l0_0.length c0_0]] w fun e w' => e = .returned (.int .i64 r) ∧ Below w.heap.size w w' := by
 have hu26 := Try.underlying26; have HR0_0 := Aside0.mk hr0_0; have HC0_0 := Aside0.mk hc0_0; clear hr0_0 hc0_0; have HB := Aside0.mk (Below.refl w.heap.size w); have H : ((spec_IsSemigroup.f k l0_0).bind fun t706 => (if t706 = true then (some (l0_0.length : Int)) else (some 0))) = some r := h; clear h; obtain ⟨t706, A2, H⟩ := zb H; have HU3 := Aside0.mk H; clear H; go_enter Try.func35, Try.ntmps35; go_upto_if 5 with (first | ((with_reducible refine gate_dst (N := 1) rfl ?_); refine box_event ?hg (N := 1) ?hd (cs := #[.slice A0_0 l0_0.length c0_0]) (t := 26) ?hr ?_; (case hd => rfl); (case hg => rfl); (case hr => first | (go_simp; done) | (go_simp; rfl)); intro gb705 hg w4 hbox hb; have BK705 := Aside0.mk (hbox); have GW705 := Aside0.mk ((by rw [hg]; exact (zS HB.out) : w.heap.size ≤ gb705)); have GE705 := Aside0.mk ((by rw [hg]; exact (zS HB.out) : w.heap.size ≤ gb705)); replace HB := Aside0.mk (below_step (zB HB.out) hb); have := Ge.mk GE705.out; clear hb hbox hg; have hcz5_0 : w4.cell? ⟨gb705, 0, none⟩ = some (.slice A0_0 l0_0.length c0_0) := (blk_cell BK705.out 0).trans rfl; have hfz5_0 := blk_frozen BK705.out 0) | ((with_reducible refine gate_callee (f := 30) rfl ?_); refine goesL_ (some 4) rfl rfl Try.func30 (by kernel_rfl) rfl #[.agg #[.slice A0_0 l0_0.length c0_0]] rfl (by (try simp only [za, zc, zn]); first | done | rfl) ?_; (with_reducible refine (spec_IsSemigroup.calls k _ _ l0_0 t706 _ ?side1 ?side2 A2.out).mono ?_); (case side1 => exact zC (Kd.C_below HR0_0.out HB.out)); (case side2 => exact HC0_0.out); rintro e w6 ⟨rfl, hb⟩; refine ⟨_, rfl, ?_⟩; replace BK705 := Aside0.mk (blk_below (zk BK705.out) hb); replace HB := Aside0.mk (below_step (zB HB.out) hb); (try clear hb); (try clear hb2); (try clear hk); (try clear hi)))
 (try simp only [Act.put, List.setIfInBounds_toArray, List.set_cons_zero, List.set_cons_succ]); have H := HU3.out; clear HU3
 by_cases c7 : t706 = true
 ·subst c7; rw [zT] at H; obtain rfl := Option.some.inj H; have hcz8_0 : w6.cell? ⟨gb705, 0, none⟩ = some (.slice A0_0 l0_0.length c0_0) := (blk_cell BK705.out 0).trans rfl; have hfz8_0 := blk_frozen BK705.out 0; go_wp2; go_ret
  exact ⟨by first | rfl | (simp [*, errW_none, errW_some] <;> rfl), zB HB.out⟩
 ·replace c7 := Bool.eq_false_iff.mpr c7; subst c7; rw [zF] at H; obtain rfl := Option.some.inj H; go_wp2; go_ret
  exact ⟨by first | rfl | (simp [*, errW_none, errW_some] <;> rfl), zB HB.out⟩

end Go.Proofs.Ythednemidaegkaa.PFnSemigroups
