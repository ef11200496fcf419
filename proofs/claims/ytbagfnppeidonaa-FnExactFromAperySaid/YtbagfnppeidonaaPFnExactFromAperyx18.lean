-- Written by a program of this session (a turned copy of the kit's print; see NOTES.md).
import Derived.Test.YtbagfnppeidonaaPFnExactFromAperyx0
import Derived.Test.YtbagfnppeidonaaPFnExactFromAperyx15
namespace Go.Proofs.Ytbagfnppeidonaa.PFnExactFromApery
open Go.RowKit Go.Proofs.YtbagfnppeidonaaW.PrintWords Go.Proofs.YtbagfnppeidonaaW.PrintLast Go.Proofs.YtbagfnppeidonaaW.PrintMore
attribute [local go_sem] max2_int min2_int max_two min_two max_three min_three max_four min_four   -- for this text's walks alone
set_option linter.unusedVariables false
set_option linter.unusedSimpArgs false

/-! ### impl_usable: function 136 -/
def impl_usable.f (k : Nat) (l0 : List Int) : Option (Bool) := (impl_within.f (l0.length : Int) 1 20).bind fun t446 => (if t446 = true then ((impl_allWithin.f k l0 1 60).bind fun t447 => (some t447)) else (some false))
theorem impl_usable.mono : ∀ a0 k, LeO (impl_usable.f k a0) (impl_usable.f (k + 1) a0) := by
 intro a0 k
 unfold impl_usable.f
 repeat' first
   | (with_reducible first | exact impl_allWithin.mono _ _ _ _ | exact LeO.refl _ | exact LeO.none _ | refine LeO.ite ?_ ?_ | refine LeO.bind ?_ (fun _ => ?_))
   | exact LeO.none _
   | refine LeO.ite ?_ ?_
   | refine LeO.bind ?_ (fun _ => ?_)
set_option maxHeartbeats 8000000 in
set_option maxRecDepth 100000 in
theorem impl_usable.calls (k : Nat) (A0 : Option Addr) (c0 : Nat) (l0 : List Int) (r : Bool) (w : World) (hr0 : Kd.C (Kd.int .i64) w A0 l0.length l0) (hc0 : l0.length ≤ c0) (h : impl_usable.f k l0 = some r) :
  Calls Try.prog 136 #[.slice A0 l0.length c0] w fun e w' => e = .returned (.bool r) ∧ Below w.heap.size w w' := by
 have HR0 := Aside0.mk hr0
 have HC0 := Aside0.mk hc0
 clear hr0 hc0
 have HB := Aside0.mk (Below.refl w.heap.size w)
 have H : ((impl_within.f (l0.length : Int) 1 20).bind fun t446 => (if t446 = true then ((impl_allWithin.f k l0 1 60).bind fun t447 => (some t447)) else (some false))) = some r := h
 clear h
 obtain ⟨t446, A2, H⟩ := zb H
 by_cases c3 : t446 = true
 ·subst c3
  rw [zT] at H
  obtain ⟨t447, A4, H⟩ := zb H
  obtain rfl := Option.some.inj H
  go_enter Try.func136, Try.ntmps136
  go_wp2_with (first | ((with_reducible refine gate_callee (f := 119) rfl ?_); refine goesL_ (some 5) rfl rfl Try.func119 (by kernel_rfl) rfl #[.int .i64 (l0.length : Int), .int .i64 1, .int .i64 20] rfl (by (try simp only [za, zc, zn]); first | done | rfl) ?_; (with_reducible refine (impl_within.calls (l0.length : Int) 1 20 true _ A2.out).mono ?_); rintro e w5 ⟨rfl, hb⟩; refine ⟨_, rfl, ?_⟩; have n0_ := Aside0.mk (below_step (zB HB.out) hb); clear HB; have HB := n0_; clear n0_; (try clear hb); (try clear hb2); (try clear hk); (try clear hi)) | (go_at_call 115; (with_reducible refine (impl_allWithin.calls k _ _ l0 1 60 t447 _ ?side1 ?side2 A4.out).mono ?_); (case side1 => exact zC (Kd.C_below HR0.out HB.out)); (case side2 => exact HC0.out); rintro e w6 ⟨rfl, hb⟩; have n0_ := Aside0.mk (below_step (zB HB.out) hb); clear HB; have HB := n0_; clear n0_; (try clear hb); (try clear hb2); (try clear hk); (try clear hi)))
  go_ret
  exact ⟨by first | rfl | (simp [errW_none, errW_some] <;> rfl) | (simp [*, errW_none, errW_some] <;> rfl), zB HB.out⟩
 ·replace c3 := Bool.eq_false_iff.mpr c3
  subst c3
  rw [zF] at H
  obtain rfl := Option.some.inj H
  go_enter Try.func136, Try.ntmps136
  go_wp2_with (first | ((with_reducible refine gate_callee (f := 119) rfl ?_); refine goesL_ (some 5) rfl rfl Try.func119 (by kernel_rfl) rfl #[.int .i64 (l0.length : Int), .int .i64 1, .int .i64 20] rfl (by (try simp only [za, zc, zn]); first | done | rfl) ?_; (with_reducible refine (impl_within.calls (l0.length : Int) 1 20 false _ A2.out).mono ?_); rintro e w7 ⟨rfl, hb⟩; refine ⟨_, rfl, ?_⟩; have n0_ := Aside0.mk (below_step (zB HB.out) hb); clear HB; have HB := n0_; clear n0_; (try clear hb); (try clear hb2); (try clear hk); (try clear hi)))
  go_ret
  exact ⟨by first | rfl | (simp [errW_none, errW_some] <;> rfl) | (simp [*, errW_none, errW_some] <;> rfl), zB HB.out⟩

/-! ### impl_Generates: function 76 -/
def impl_Generates.f (k : Nat) (l0 : List Int) (a1 : Int) : Option (Bool) := (impl_usable.f k l0).bind fun t448 => (if t448 = true then ((impl_within.f a1 0 1000000).bind fun t449 => (if t449 = true then (if 0 < (l0.length : Int) then ((impl_leasts.f k l0 (rd l0 0)).bind fun t451 => (if (rd l0 0) = 0 then (none) else (if 0 ≤ (Int.tmod a1 (rd l0 0)) then (if (Int.tmod a1 (rd l0 0)) < (t451.length : Int) then (if (rd t451 (Int.tmod a1 (rd l0 0))) ≥ 0 then (some (decide ((rd t451 (Int.tmod a1 (rd l0 0))) ≤ a1))) else (some false)) else (none)) else (none)))) else (none)) else (some false))) else (some false))
theorem impl_Generates.mono : ∀ a0 a1 k, LeO (impl_Generates.f k a0 a1) (impl_Generates.f (k + 1) a0 a1) := by
 intro a0 a1 k
 unfold impl_Generates.f
 repeat' first
   | (with_reducible first | exact impl_leasts.mono _ _ _ | exact impl_usable.mono _ _ | exact LeO.refl _ | exact LeO.none _ | refine LeO.ite ?_ ?_ | refine LeO.bind ?_ (fun _ => ?_))
   | exact LeO.none _
   | refine LeO.ite ?_ ?_
   | refine LeO.bind ?_ (fun _ => ?_)
def impl_Generates.T3 : Bool × List (List Nat × List Nat) := (true, [([], []), ([], []), ([1], [1]), ([2], [2]), ([0, 3], [0, 3]), ([], []), ([], []), ([6], [6]), ([7], [7]), ([5, 8], [5, 8]), ([4, 9], [4, 9]), ([10], [10]), ([11, 4, 0, 1, 2, 3, 4, 5, 6, 7, 8, 9, 10, 11], [11])])
def impl_Generates.B3 : List Nat := [0, 0, 2, 6, 15, 0, 0, 64, 192, 480, 1023, 2047, 4095]
theorem impl_Generates.tab3 : rtab .any (opsOf Try.f76 3) = impl_Generates.T3 := by kernel_rfl
theorem impl_Generates.bits3 : waitsOk impl_Generates.T3.2 impl_Generates.B3 = true := by kernel_rfl
set_option maxHeartbeats 8000000 in
set_option maxRecDepth 100000 in
theorem impl_Generates.calls (k : Nat) (A0 : Option Addr) (c0 : Nat) (l0 : List Int) (a1 : Int) (r : Bool) (w : World) (hr0 : Kd.C (Kd.int .i64) w A0 l0.length l0) (hc0 : l0.length ≤ c0) (h : impl_Generates.f k l0 a1 = some r) :
  Calls Try.prog 76 #[.slice A0 l0.length c0, .int .i64 a1] w fun e w' => e = .returned (.bool r) ∧ Below w.heap.size w w' := by
 have HR0 := Aside0.mk hr0
 have HC0 := Aside0.mk hc0
 clear hr0 hc0
 have HB := Aside0.mk (Below.refl w.heap.size w)
 have H : ((impl_usable.f k l0).bind fun t448 => (if t448 = true then ((impl_within.f a1 0 1000000).bind fun t449 => (if t449 = true then (if 0 < (l0.length : Int) then ((impl_leasts.f k l0 (rd l0 0)).bind fun t451 => (if (rd l0 0) = 0 then (none) else (if 0 ≤ (Int.tmod a1 (rd l0 0)) then (if (Int.tmod a1 (rd l0 0)) < (t451.length : Int) then (if (rd t451 (Int.tmod a1 (rd l0 0))) ≥ 0 then (some (decide ((rd t451 (Int.tmod a1 (rd l0 0))) ≤ a1))) else (some false)) else (none)) else (none)))) else (none)) else (some false))) else (some false))) = some r := h
 clear h
 obtain ⟨t448, A3, H⟩ := zb H
 by_cases c4 : t448 = true
 ·subst c4
  rw [zT] at H
  obtain ⟨t449, A5, H⟩ := zb H
  have HU6 := Aside0.mk H
  clear H
  go_enter Try.func76, Try.ntmps76
  go_upto_if 13 with (first | ((with_reducible refine gate_callee (f := 136) rfl ?_); refine goesL_ (some 7) rfl rfl Try.func136 (by kernel_rfl) rfl #[.slice A0 l0.length c0] rfl (by (try simp only [za, zc, zn]); first | done | rfl) ?_; (with_reducible refine (impl_usable.calls k _ _ l0 true _ ?side1 ?side2 A3.out).mono ?_); (case side1 => repeat (first | exact HR0.out | (with_reducible refine Kd.C_alloc ?_ _) | (with_reducible refine Kd.C_drewN ?_ _) | (with_reducible refine Kd.C_drew ?_))); (case side2 => exact HC0.out); rintro e w7 ⟨rfl, hb⟩; refine ⟨_, rfl, ?_⟩; have n0_ := Aside0.mk (below_step (zB HB.out) hb); clear HB; have HB := n0_; clear n0_; (try clear hb); (try clear hb2); (try clear hk); (try clear hi)) | (go_at_call 119; (with_reducible refine (impl_within.calls a1 0 1000000 t449 _ A5.out).mono ?_); rintro e w8 ⟨rfl, hb⟩; have n0_ := Aside0.mk (below_step (zB HB.out) hb); clear HB; have HB := n0_; clear n0_; (try clear hb); (try clear hb2); (try clear hk); (try clear hi)))
  (try simp only [Act.put, List.setIfInBounds_toArray, List.set_cons_zero, List.set_cons_succ])
  have H := HU6.out
  clear HU6
  by_cases c9 : t449 = true
  ·subst c9
   rw [zT] at H
   obtain ⟨c10, H⟩ := zi H
   have c10b0 : decide (0 < (l0.length : Int)) = true := decide_eq_true c10
   have c10b1 : decide (0 < l0.length) = true := decide_eq_true (by omega)
   clear c10
   (first | rw [c10b0] | rw [c10b1] | (simp only [i64_w, i32_w]; rw [c10b0]) | skip)
   obtain ⟨t451, A11, H⟩ := zb H
   by_cases c12 : (rd l0 0) = 0
   ·rw [if_pos c12] at H
    exact absurd H (by simp)
   ·rw [if_neg c12] at H
    have c12b0 : ((rd l0 0) == 0) = false := beq_eq_false_iff_ne.mpr c12
    have c12b1 : ((rd l0 0) != 0) = true := bne_iff_ne.mpr c12
    obtain ⟨ji13, hji13⟩ : ∃ j_ : Int, (Int.tmod a1 (rd l0 0)) = j_ := ⟨_, rfl⟩
    replace H : (if 0 ≤ (ji13) then (if (ji13) < (t451.length : Int) then (if (rd t451 (ji13)) ≥ 0 then (some (decide ((rd t451 (ji13)) ≤ a1))) else (some false)) else (none)) else (none)) = some r := by first | (rw [hji13] at H; exact H) | (simp only [hji13] at H ⊢; exact H)
    (try rw [hji13] at A11)
    obtain ⟨c14, H⟩ := zi H
    have c14b0 : decide (0 ≤ (ji13)) = true := decide_eq_true c14
    clear c14
    obtain ⟨c15, H⟩ := zi H
    have c15b0 : decide ((ji13) < (t451.length : Int)) = true := decide_eq_true c15
    clear c15
    by_cases c16 : (rd t451 (ji13)) ≥ 0
    ·rw [if_pos c16] at H
     have c16b0 : decide (0 ≤ (rd t451 (ji13))) = true := decide_eq_true c16
     clear c16
     obtain rfl := Option.some.inj H
     try go_wp2
     have n0_ := Aside0.mk (below_drew1 HB.out)
     clear HB
     have HB := n0_
     clear n0_
     have p450 : 0 ≤ (0 : Int) := (by omega)
     have q450 : 0 < (l0.length : Int) := of_decide_eq_true (by assumption)
     obtain ⟨ad450, e450, hx450_0⟩ := Kd.at_int HR0.out 0 p450 q450
     have hw450_0 := hx450_0
     (try rw [show ((0 : Int)).toNat = 0 from rfl] at hw450_0)
     (try rw [show 0 * 1 = 0 from rfl] at hw450_0)
     (try rw [Addr.add_zero'] at hw450_0)
     cases e450
     have qi450 : (0 < l0.length) = True := eq_true (by omega)
     (try rw [show ((0 : Int)).toNat = 0 from rfl] at hx450_0)
     (try rw [Addr.add_zero'] at hx450_0)
     (try replace hx450_0 := (HB.out.cell (World.block_lt_of_cell? w _ hx450_0)).trans hx450_0)
     replace p450 := eq_true p450
     replace q450 := eq_true q450
     have p454 : 0 ≤ (0 : Int) := (by omega)
     have q454 : 0 < (l0.length : Int) := of_decide_eq_true (by assumption)
     obtain ⟨ad454, e454, hx454_0⟩ := Kd.at_int HR0.out 0 p454 q454
     have hw454_0 := hx454_0
     (try rw [show ((0 : Int)).toNat = 0 from rfl] at hw454_0)
     (try rw [show 0 * 1 = 0 from rfl] at hw454_0)
     (try rw [Addr.add_zero'] at hw454_0)
     obtain rfl : ad450 = ad454 := (by injection e454)
     have qi454 : (0 < l0.length) = True := eq_true (by omega)
     (try rw [show ((0 : Int)).toNat = 0 from rfl] at hx454_0)
     (try rw [Addr.add_zero'] at hx454_0)
     (try replace hx454_0 := (HB.out.cell (World.block_lt_of_cell? w _ hx454_0)).trans hx454_0)
     replace p454 := eq_true p454
     replace q454 := eq_true q454
     refine start_ (n := 13) (S := fun w' => w'.cell? ad450 = some (.int .i64 (rd l0 0)) ∧ w'.cell? ad450 = some (.int .i64 (rd l0 0))) (ds := []) bA4 (by kernel_rfl) rfl rfl ⟨((HB.out.cell (World.block_lt_of_cell? w _ hw450_0)).trans hw450_0), ((HB.out.cell (World.block_lt_of_cell? w _ hw454_0)).trans hw454_0)⟩ (fun hHeld => ?_); refine with_tabW impl_Generates.tab3 impl_Generates.bits3 (fun HT_ HW_ => ?_)
     generalize w8.drew = w17 at HB hx450_0 hx454_0 hHeld ⊢
     refine pure_ (i := 0) (N := some 14) (v := ?_) (a' := ?_) bA11 rfl rfl (any_of HT_.out (by kernel_rfl)) (fun _ _ _ h => h) (Or.inl ⟨by rfl, ?_⟩) ?_ ?_
     rotate_left
     ·intro w'
      go_simp
      with_reducible rfl
     rotate_left
     ·simp only [Act.put, qA, qB, qC, i64_w, i32_w]
      rfl
     refine pure_ (i := 1) (N := some 15) (v := ?_) (a' := ?_) bA18 rfl rfl (any_of HT_.out (by kernel_rfl)) (fun _ _ _ h => h) (Or.inl ⟨by rfl, ?_⟩) ?_ ?_
     rotate_left
     ·intro w'
      go_simp
      with_reducible rfl
     rotate_left
     ·simp only [Act.put, qA, qB, qC, i64_w, i32_w]
      rfl
     refine pure_ (i := 2) (N := some 16) (v := ?_) (a' := ?_) bA24 rfl rfl (any_of HT_.out (by kernel_rfl)) (fun _ _ _ h => h) (Or.inl ⟨by rfl, ?_⟩) ?_ ?_
     rotate_left
     ·intro w'
      go_simp
      with_reducible rfl
     rotate_left
     ·simp only [Act.put, qA, qB, qC, i64_w, i32_w]
      rfl
     refine pure_ (i := 5) (N := some 19) (v := ?_) (a' := ?_) bA27 rfl rfl (any_of HT_.out (by kernel_rfl)) (fun _ _ _ h => h) (Or.inl ⟨by rfl, ?_⟩) ?_ ?_
     rotate_left
     ·intro w'
      go_simp
      with_reducible rfl
     rotate_left
     ·simp only [Act.put, qA, qB, qC, i64_w, i32_w]
      rfl
     refine pure_ (i := 6) (N := some 20) (v := ?_) (a' := ?_) bA28 rfl rfl (any_of HT_.out (by kernel_rfl)) (fun _ _ _ h => h) (Or.inl ⟨by rfl, ?_⟩) ?_ ?_
     rotate_left
     ·intro w'
      go_simp
      with_reducible rfl
     rotate_left
     ·simp only [Act.put, qA, qB, qC, i64_w, i32_w]
      rfl
     refine pure_ (i := 7) (N := some 21) (v := ?_) (a' := ?_) bA29 rfl rfl (any_of HT_.out (by kernel_rfl)) (fun _ _ _ h => h) (Or.inl ⟨by rfl, ?_⟩) ?_ ?_
     rotate_left
     ·intro w'
      go_simp
      with_reducible rfl
     rotate_left
     ·simp only [Act.put, qA, qB, qC, i64_w, i32_w]
      rfl
     refine take_ (i := 3) (N := some 17) (v := ?_) (a' := ?_) bA36 rfl rfl (take_ofW HT_.out HW_.out (by kernel_rfl)) (fun _ _ _ h => h) (Or.inl ⟨by rfl, ?_⟩) hHeld ?_ ?_
     rotate_left
     ·rintro w' ⟨s0, s1⟩
      go_simp
      with_reducible rfl
     rotate_left
     ·simp only [Act.put, qA, qB, qC, i64_w, i32_w]
      rfl
     refine take_ (i := 8) (N := some 22) (v := ?_) (a' := ?_) bA37 rfl rfl (take_ofW HT_.out HW_.out (by kernel_rfl)) (fun _ _ _ h => h) (Or.inl ⟨by rfl, ?_⟩) hHeld ?_ ?_
     rotate_left
     ·rintro w' ⟨s0, s1⟩
      go_simp
      with_reducible rfl
     rotate_left
     ·simp only [Act.put, qA, qB, qC, i64_w, i32_w]
      rfl
     refine pure_ (i := 9) (N := some 23) (v := ?_) (a' := ?_) bA38 rfl rfl (any_of HT_.out (by kernel_rfl)) (fun _ _ _ h => h) (Or.inl ⟨by rfl, ?_⟩) ?_ ?_
     rotate_left
     ·intro w'
      go_simp
      with_reducible rfl
     rotate_left
     ·simp only [Act.put, qA, qB, qC, i64_w, i32_w]
      rfl
     refine one_ (i := 4) (N := some 18) bA71 rfl rfl (one_of HT_.out (by kernel_rfl)) (by decide) (fun K hK => ?_)
     refine goes_ Try.func129 (by kernel_rfl) rfl #[.slice (some ad450) l0.length c0, .int .i64 (rd l0 0)] (by rfl) rfl rfl (by (try simp only [za, zc, zn]); first | done | rfl) ?_
     with_reducible refine (impl_leasts.calls k _ _ l0 (rd l0 0) t451 _ ?side1 ?side2 A11.out).mono ?_
     (case side1 => exact zC (Kd.C_below HR0.out HB.out))
     (case side2 => exact HC0.out)
     rintro e w18 ⟨v452, rfl, ho0, hb⟩

     refine ⟨_, rfl, ?_⟩
     have n0_ := Aside0.mk (Kd.R_lower ho0 (zS HB.out))
     have n1_ := Aside0.mk (below_step (zB HB.out) hb)
     clear HB
     have HO453 := n0_
     have HB := n1_
     clear n0_ n1_
     (try clear hb)
     (try clear hb2)
     (try clear hk)
     (try clear hi)
     (try clear ho0)
     obtain ⟨Ao19, co19, eo19⟩ := Kd.R_slice HO453.out
     (first | subst eo19 | (injection eo19 with f1_ f2_ f3_; have f4_ := f1_.symm; have f5_ := f3_.symm; clear f1_ f2_ f3_; subst f4_; subst f5_))
     have p455 : 0 ≤ ((ji13) : Int) := of_decide_eq_true (by assumption)
     have q455 : (ji13) < (t451.length : Int) := of_decide_eq_true (by assumption)
     obtain ⟨ad455, e455, hx455_0⟩ := Kd.at_int (Kd.R_reads' HO453.out).2.2 (ji13) p455 q455
     cases e455
     replace p455 := eq_true p455
     replace q455 := eq_true q455
     refine hK.out _ _ ⟨((HB.out.cell (World.block_lt_of_cell? w _ hw450_0)).trans hw450_0), ((HB.out.cell (World.block_lt_of_cell? w _ hw454_0)).trans hw454_0)⟩ (fun hHeld => ?_)
     clear hK K
     refine norm_ (a' := ?_) ?_ ?_
     rotate_left
     ·show Act.put _ (some 18) _ = _
      simp only [Act.put, qA, qB, qC, i64_w, i32_w]
      rfl
     refine pure_ (i := 10) (N := some 24) (v := ?_) (a' := ?_) bA78 rfl rfl (any_of HT_.out (by kernel_rfl)) (fun _ _ _ h => h) (Or.inl ⟨by rfl, ?_⟩) ?_ ?_
     rotate_left
     ·intro w'
      go_simp
      with_reducible rfl
     rotate_left
     ·simp only [Act.put, qA, qB, qC, i64_w, i32_w]
      rfl
     refine one_ (i := 11) (N := some 25) bA83 rfl rfl (one_of HT_.out (by kernel_rfl)) (by decide) (fun K hK => ?_)
     rw [if_pos (by rfl)]
     go_simp
     refine hK.out _ _ hHeld (fun hHeld => ?_)
     clear hK K
     refine pure_ (i := 12) (N := some 5) (v := ?_) (a' := ?_) bA122 rfl rfl (any_of HT_.out (by kernel_rfl)) (fun _ _ _ h => h) (Or.inl ⟨by rfl, ?_⟩) ?_ ?_
     rotate_left
     ·intro w'
      go_simp
      with_reducible rfl
     rotate_left
     ·simp only [Act.put, qA, qB, qC, i64_w, i32_w]
      rfl
     refine done_ (done_of HT_.out (by kernel_rfl)) ?_
     try go_wp2
     go_ret
     exact ⟨by first | rfl | (simp [errW_none, errW_some] <;> rfl) | (simp only [← hji13]; first | rfl | (simp [errW_none, errW_some] <;> rfl)) | (simp [*, errW_none, errW_some] <;> rfl), zB HB.out⟩
    ·rw [if_neg c16] at H
     have c16b0 : decide (0 ≤ (rd t451 (ji13))) = false := decide_eq_false c16
     clear c16
     obtain rfl := Option.some.inj H
     try go_wp2
     have n0_ := Aside0.mk (below_drew1 HB.out)
     clear HB
     have HB := n0_
     clear n0_
     have p450 : 0 ≤ (0 : Int) := (by omega)
     have q450 : 0 < (l0.length : Int) := of_decide_eq_true (by assumption)
     obtain ⟨ad450, e450, hx450_0⟩ := Kd.at_int HR0.out 0 p450 q450
     have hw450_0 := hx450_0
     (try rw [show ((0 : Int)).toNat = 0 from rfl] at hw450_0)
     (try rw [show 0 * 1 = 0 from rfl] at hw450_0)
     (try rw [Addr.add_zero'] at hw450_0)
     cases e450
     have qi450 : (0 < l0.length) = True := eq_true (by omega)
     (try rw [show ((0 : Int)).toNat = 0 from rfl] at hx450_0)
     (try rw [Addr.add_zero'] at hx450_0)
     (try replace hx450_0 := (HB.out.cell (World.block_lt_of_cell? w _ hx450_0)).trans hx450_0)
     replace p450 := eq_true p450
     replace q450 := eq_true q450
     have p454 : 0 ≤ (0 : Int) := (by omega)
     have q454 : 0 < (l0.length : Int) := of_decide_eq_true (by assumption)
     obtain ⟨ad454, e454, hx454_0⟩ := Kd.at_int HR0.out 0 p454 q454
     have hw454_0 := hx454_0
     (try rw [show ((0 : Int)).toNat = 0 from rfl] at hw454_0)
     (try rw [show 0 * 1 = 0 from rfl] at hw454_0)
     (try rw [Addr.add_zero'] at hw454_0)
     obtain rfl : ad450 = ad454 := (by injection e454)
     have qi454 : (0 < l0.length) = True := eq_true (by omega)
     (try rw [show ((0 : Int)).toNat = 0 from rfl] at hx454_0)
     (try rw [Addr.add_zero'] at hx454_0)
     (try replace hx454_0 := (HB.out.cell (World.block_lt_of_cell? w _ hx454_0)).trans hx454_0)
     replace p454 := eq_true p454
     replace q454 := eq_true q454
     refine start_ (n := 13) (S := fun w' => w'.cell? ad450 = some (.int .i64 (rd l0 0)) ∧ w'.cell? ad450 = some (.int .i64 (rd l0 0))) (ds := []) bA4 (by kernel_rfl) rfl rfl ⟨((HB.out.cell (World.block_lt_of_cell? w _ hw450_0)).trans hw450_0), ((HB.out.cell (World.block_lt_of_cell? w _ hw454_0)).trans hw454_0)⟩ (fun hHeld => ?_); refine with_tabW impl_Generates.tab3 impl_Generates.bits3 (fun HT_ HW_ => ?_)
     generalize w8.drew = w20 at HB hx450_0 hx454_0 hHeld ⊢
     refine pure_ (i := 0) (N := some 14) (v := ?_) (a' := ?_) bA11 rfl rfl (any_of HT_.out (by kernel_rfl)) (fun _ _ _ h => h) (Or.inl ⟨by rfl, ?_⟩) ?_ ?_
     rotate_left
     ·intro w'
      go_simp
      with_reducible rfl
     rotate_left
     ·simp only [Act.put, qA, qB, qC, i64_w, i32_w]
      rfl
     refine pure_ (i := 1) (N := some 15) (v := ?_) (a' := ?_) bA18 rfl rfl (any_of HT_.out (by kernel_rfl)) (fun _ _ _ h => h) (Or.inl ⟨by rfl, ?_⟩) ?_ ?_
     rotate_left
     ·intro w'
      go_simp
      with_reducible rfl
     rotate_left
     ·simp only [Act.put, qA, qB, qC, i64_w, i32_w]
      rfl
     refine pure_ (i := 2) (N := some 16) (v := ?_) (a' := ?_) bA24 rfl rfl (any_of HT_.out (by kernel_rfl)) (fun _ _ _ h => h) (Or.inl ⟨by rfl, ?_⟩) ?_ ?_
     rotate_left
     ·intro w'
      go_simp
      with_reducible rfl
     rotate_left
     ·simp only [Act.put, qA, qB, qC, i64_w, i32_w]
      rfl
     refine pure_ (i := 5) (N := some 19) (v := ?_) (a' := ?_) bA27 rfl rfl (any_of HT_.out (by kernel_rfl)) (fun _ _ _ h => h) (Or.inl ⟨by rfl, ?_⟩) ?_ ?_
     rotate_left
     ·intro w'
      go_simp
      with_reducible rfl
     rotate_left
     ·simp only [Act.put, qA, qB, qC, i64_w, i32_w]
      rfl
     refine pure_ (i := 6) (N := some 20) (v := ?_) (a' := ?_) bA28 rfl rfl (any_of HT_.out (by kernel_rfl)) (fun _ _ _ h => h) (Or.inl ⟨by rfl, ?_⟩) ?_ ?_
     rotate_left
     ·intro w'
      go_simp
      with_reducible rfl
     rotate_left
     ·simp only [Act.put, qA, qB, qC, i64_w, i32_w]
      rfl
     refine pure_ (i := 7) (N := some 21) (v := ?_) (a' := ?_) bA29 rfl rfl (any_of HT_.out (by kernel_rfl)) (fun _ _ _ h => h) (Or.inl ⟨by rfl, ?_⟩) ?_ ?_
     rotate_left
     ·intro w'
      go_simp
      with_reducible rfl
     rotate_left
     ·simp only [Act.put, qA, qB, qC, i64_w, i32_w]
      rfl
     refine take_ (i := 3) (N := some 17) (v := ?_) (a' := ?_) bA36 rfl rfl (take_ofW HT_.out HW_.out (by kernel_rfl)) (fun _ _ _ h => h) (Or.inl ⟨by rfl, ?_⟩) hHeld ?_ ?_
     rotate_left
     ·rintro w' ⟨s0, s1⟩
      go_simp
      with_reducible rfl
     rotate_left
     ·simp only [Act.put, qA, qB, qC, i64_w, i32_w]
      rfl
     refine take_ (i := 8) (N := some 22) (v := ?_) (a' := ?_) bA37 rfl rfl (take_ofW HT_.out HW_.out (by kernel_rfl)) (fun _ _ _ h => h) (Or.inl ⟨by rfl, ?_⟩) hHeld ?_ ?_
     rotate_left
     ·rintro w' ⟨s0, s1⟩
      go_simp
      with_reducible rfl
     rotate_left
     ·simp only [Act.put, qA, qB, qC, i64_w, i32_w]
      rfl
     refine pure_ (i := 9) (N := some 23) (v := ?_) (a' := ?_) bA38 rfl rfl (any_of HT_.out (by kernel_rfl)) (fun _ _ _ h => h) (Or.inl ⟨by rfl, ?_⟩) ?_ ?_
     rotate_left
     ·intro w'
      go_simp
      with_reducible rfl
     rotate_left
     ·simp only [Act.put, qA, qB, qC, i64_w, i32_w]
      rfl
     refine one_ (i := 4) (N := some 18) bA71 rfl rfl (one_of HT_.out (by kernel_rfl)) (by decide) (fun K hK => ?_)
     refine goes_ Try.func129 (by kernel_rfl) rfl #[.slice (some ad450) l0.length c0, .int .i64 (rd l0 0)] (by rfl) rfl rfl (by (try simp only [za, zc, zn]); first | done | rfl) ?_
     with_reducible refine (impl_leasts.calls k _ _ l0 (rd l0 0) t451 _ ?side1 ?side2 A11.out).mono ?_
     (case side1 => exact zC (Kd.C_below HR0.out HB.out))
     (case side2 => exact HC0.out)
     rintro e w21 ⟨v452, rfl, ho0, hb⟩

     refine ⟨_, rfl, ?_⟩
     have n0_ := Aside0.mk (Kd.R_lower ho0 (zS HB.out))
     have n1_ := Aside0.mk (below_step (zB HB.out) hb)
     clear HB
     have HO453 := n0_
     have HB := n1_
     clear n0_ n1_
     (try clear hb)
     (try clear hb2)
     (try clear hk)
     (try clear hi)
     (try clear ho0)
     obtain ⟨Ao22, co22, eo22⟩ := Kd.R_slice HO453.out
     (first | subst eo22 | (injection eo22 with f1_ f2_ f3_; have f4_ := f1_.symm; have f5_ := f3_.symm; clear f1_ f2_ f3_; subst f4_; subst f5_))
     have p455 : 0 ≤ ((ji13) : Int) := of_decide_eq_true (by assumption)
     have q455 : (ji13) < (t451.length : Int) := of_decide_eq_true (by assumption)
     obtain ⟨ad455, e455, hx455_0⟩ := Kd.at_int (Kd.R_reads' HO453.out).2.2 (ji13) p455 q455
     cases e455
     replace p455 := eq_true p455
     replace q455 := eq_true q455
     refine hK.out _ _ ⟨((HB.out.cell (World.block_lt_of_cell? w _ hw450_0)).trans hw450_0), ((HB.out.cell (World.block_lt_of_cell? w _ hw454_0)).trans hw454_0)⟩ (fun hHeld => ?_)
     clear hK K
     refine norm_ (a' := ?_) ?_ ?_
     rotate_left
     ·show Act.put _ (some 18) _ = _
      simp only [Act.put, qA, qB, qC, i64_w, i32_w]
      rfl
     refine pure_ (i := 10) (N := some 24) (v := ?_) (a' := ?_) bA78 rfl rfl (any_of HT_.out (by kernel_rfl)) (fun _ _ _ h => h) (Or.inl ⟨by rfl, ?_⟩) ?_ ?_
     rotate_left
     ·intro w'
      go_simp
      with_reducible rfl
     rotate_left
     ·simp only [Act.put, qA, qB, qC, i64_w, i32_w]
      rfl
     refine one_ (i := 11) (N := some 25) bA83 rfl rfl (one_of HT_.out (by kernel_rfl)) (by decide) (fun K hK => ?_)
     rw [if_pos (by rfl)]
     go_simp
     refine hK.out _ _ hHeld (fun hHeld => ?_)
     clear hK K
     refine pure_ (i := 12) (N := some 5) (v := ?_) (a' := ?_) bA122 rfl rfl (any_of HT_.out (by kernel_rfl)) (fun _ _ _ h => h) (Or.inl ⟨by rfl, ?_⟩) ?_ ?_
     rotate_left
     ·intro w'
      go_simp
      with_reducible rfl
     rotate_left
     ·simp only [Act.put, qA, qB, qC, i64_w, i32_w]
      rfl
     refine done_ (done_of HT_.out (by kernel_rfl)) ?_
     try go_wp2
     go_ret
     exact ⟨by first | rfl | (simp [errW_none, errW_some] <;> rfl) | (simp only [← hji13]; first | rfl | (simp [errW_none, errW_some] <;> rfl)) | (simp [*, errW_none, errW_some] <;> rfl), zB HB.out⟩
  ·replace c9 := Bool.eq_false_iff.mpr c9
   subst c9
   rw [zF] at H
   obtain rfl := Option.some.inj H
   go_wp2
   go_ret
   exact ⟨by first | rfl | (simp [errW_none, errW_some] <;> rfl) | (simp [*, errW_none, errW_some] <;> rfl), zB HB.out⟩
 ·replace c4 := Bool.eq_false_iff.mpr c4
  subst c4
  rw [zF] at H
  obtain rfl := Option.some.inj H
  go_enter Try.func76, Try.ntmps76
  go_wp2_with (first | ((with_reducible refine gate_callee (f := 136) rfl ?_); refine goesL_ (some 7) rfl rfl Try.func136 (by kernel_rfl) rfl #[.slice A0 l0.length c0] rfl (by (try simp only [za, zc, zn]); first | done | rfl) ?_; (with_reducible refine (impl_usable.calls k _ _ l0 false _ ?side1 ?side2 A3.out).mono ?_); (case side1 => repeat (first | exact HR0.out | (with_reducible refine Kd.C_alloc ?_ _) | (with_reducible refine Kd.C_drewN ?_ _) | (with_reducible refine Kd.C_drew ?_))); (case side2 => exact HC0.out); rintro e w23 ⟨rfl, hb⟩; refine ⟨_, rfl, ?_⟩; have n0_ := Aside0.mk (below_step (zB HB.out) hb); clear HB; have HB := n0_; clear n0_; (try clear hb); (try clear hb2); (try clear hk); (try clear hi)))
  go_ret
  exact ⟨by first | rfl | (simp [errW_none, errW_some] <;> rfl) | (simp [*, errW_none, errW_some] <;> rfl), zB HB.out⟩

/-! ### impl_IsAscending: function 140 -/
def impl_IsAscending.l0 : Nat → List Int → Int → Option (Bool)
 | 0, _, _ => none
 | k + 1, x0, x3 => if x3 < (x0.length : Int) then (if 0 ≤ x3 then (if 0 ≤ (wrap64 (x3 - 1)) then (if (wrap64 (x3 - 1)) < (x0.length : Int) then (if (rd x0 x3) ≤ (rd x0 (wrap64 (x3 - 1))) then (some false) else (impl_IsAscending.l0 k x0 (wrap64 (x3 + 1)))) else (none)) else (none)) else (none)) else (some true)
def impl_IsAscending.f (k : Nat) (l0 : List Int) : Option (Bool) := impl_IsAscending.l0 k l0 1
theorem impl_IsAscending.mono_l : ∀ k, (∀ y0 y1, LeO (impl_IsAscending.l0 k y0 y1) (impl_IsAscending.l0 (k + 1) y0 y1))
 | 0 => fun _ _ r h => by simp [impl_IsAscending.l0] at h
 | k + 1 => by
  have ih0 := impl_IsAscending.mono_l k
  ·intro y0 y1
   unfold impl_IsAscending.l0
   repeat' first
   | (with_reducible first | exact ih0 _ _ | exact LeO.refl _ | exact LeO.none _ | refine LeO.ite ?_ ?_ | refine LeO.bind ?_ (fun _ => ?_))
   | exact LeO.none _
   | refine LeO.ite ?_ ?_
   | refine LeO.bind ?_ (fun _ => ?_)
theorem impl_IsAscending.mono : ∀ a0 k, LeO (impl_IsAscending.f k a0) (impl_IsAscending.f (k + 1) a0) := by
 intro a0 k
 have ih0 := impl_IsAscending.mono_l k
 unfold impl_IsAscending.f
 repeat' first
   | (with_reducible first | exact ih0 _ _ | exact LeO.refl _ | exact LeO.none _ | refine LeO.ite ?_ ?_ | refine LeO.bind ?_ (fun _ => ?_))
   | exact LeO.none _
   | refine LeO.ite ?_ ?_
   | refine LeO.bind ?_ (fun _ => ?_)
set_option maxHeartbeats 8000000 in
set_option maxRecDepth 100000 in
theorem impl_IsAscending.calls (k : Nat) (A0 : Option Addr) (c0 : Nat) (l0 : List Int) (r : Bool) (w : World) (hr0 : Kd.C (Kd.int .i64) w A0 l0.length l0) (hc0 : l0.length ≤ c0) (h : impl_IsAscending.f k l0 = some r) :
  Calls Try.prog 140 #[.slice A0 l0.length c0] w fun e w' => e = .returned (.bool r) ∧ Drawn0 w w' := by
 have HR0 := Aside0.mk hr0
 have HC0 := Aside0.mk hc0
 clear hr0 hc0
 have H : (impl_IsAscending.l0 k l0 1) = some r := h
 clear h
 have H' := Aside0.mk H
 clear H
 go_enter Try.func140, Try.ntmps140
 go_wp2
 repeat (go_quiet (fail); try go_wp2)
 go_loopg [3] k (fun kq v3 w' => ∃ (x3_1 : Int), v3 = .int .i64 x3_1 ∧ Aside0 (impl_IsAscending.l0 kq l0 x3_1 = some r) ∧ Aside0 (kq ≤ k) ∧ Drawn0 w w')
 case atStart => exact ⟨(1), (by first | rfl | (simp; done) | (simp [*]; done)), H', ⟨Nat.le_refl _⟩, by repeat (first | exact Drawn0.refl _ | apply Drawn0.step)⟩
 case round =>
  clear H'
  try clear c1
  obtain ⟨x3_1, rfl, HA, HK1, ⟨m1, rfl⟩⟩ := hrel
  cases gk with
  | zero => exact absurd HA.out (by simp [impl_IsAscending.l0])
  | succ k1 =>
   have H := HA.out
   clear HA
   simp only [impl_IsAscending.l0] at H
   by_cases c2 : x3_1 < (l0.length : Int)
   ·rw [if_pos c2] at H
    have c2b0 : decide (x3_1 < (l0.length : Int)) = true := decide_eq_true c2
    clear c2
    obtain ⟨c3, H⟩ := zi H
    have c3b0 : decide (0 ≤ x3_1) = true := decide_eq_true c3
    clear c3
    obtain ⟨ji4, hji4⟩ : ∃ j_ : Int, (wrap64 (x3_1 - 1)) = j_ := ⟨_, rfl⟩
    replace H : (if 0 ≤ (ji4) then (if (ji4) < (l0.length : Int) then (if (rd l0 x3_1) ≤ (rd l0 (ji4)) then (some false) else (impl_IsAscending.l0 k1 l0 (wrap64 (x3_1 + 1)))) else (none)) else (none)) = some r := by first | (rw [hji4] at H; exact H) | (simp only [hji4] at H ⊢; exact H)
    have hji4w : (IntKind.i64.wrap (x3_1 - 1)) = ji4 := (i64_w _).trans hji4
    obtain ⟨c5, H⟩ := zi H
    have c5b0 : decide (0 ≤ (ji4)) = true := decide_eq_true c5
    clear c5
    obtain ⟨c6, H⟩ := zi H
    have c6b0 : decide ((ji4) < (l0.length : Int)) = true := decide_eq_true c6
    clear c6
    by_cases c7 : (rd l0 x3_1) ≤ (rd l0 (ji4))
    ·rw [if_pos c7] at H
     have c7b0 : decide ((rd l0 x3_1) ≤ (rd l0 (ji4))) = true := decide_eq_true c7
     clear c7
     obtain rfl := Option.some.inj H
     have p456 : 0 ≤ (x3_1 : Int) := of_decide_eq_true (by assumption)
     have q456 : x3_1 < (l0.length : Int) := of_decide_eq_true (by assumption)
     obtain ⟨ad456, e456, hx456_0⟩ := Kd.at_int HR0.out x3_1 p456 q456
     cases e456
     replace p456 := eq_true p456
     replace q456 := eq_true q456
     have p457 : 0 ≤ ((ji4) : Int) := of_decide_eq_true (by assumption)
     have q457 : (ji4) < (l0.length : Int) := of_decide_eq_true (by assumption)
     obtain ⟨ad457, e457, hx457_0⟩ := Kd.at_int HR0.out (ji4) p457 q457
     obtain rfl : ad456 = ad457 := (by injection e457)
     replace p457 := eq_true p457
     replace q457 := eq_true q457
     go_wp2
     repeat (go_quiet (fail); try go_wp2)
     go_ret
     exact ⟨by first | rfl | (simp; done) | (simp only [← hji4] <;> (first | rfl | simp)) | (simp [*]; done), by repeat (first | exact Drawn0.refl _ | apply Drawn0.step)⟩
    ·rw [if_neg c7] at H
     have c7b0 : decide ((rd l0 x3_1) ≤ (rd l0 (ji4))) = false := decide_eq_false c7
     clear c7
     have H' := Aside0.mk H
     clear H
     have p456 : 0 ≤ (x3_1 : Int) := of_decide_eq_true (by assumption)
     have q456 : x3_1 < (l0.length : Int) := of_decide_eq_true (by assumption)
     obtain ⟨ad456, e456, hx456_0⟩ := Kd.at_int HR0.out x3_1 p456 q456
     cases e456
     replace p456 := eq_true p456
     replace q456 := eq_true q456
     have p457 : 0 ≤ ((ji4) : Int) := of_decide_eq_true (by assumption)
     have q457 : (ji4) < (l0.length : Int) := of_decide_eq_true (by assumption)
     obtain ⟨ad457, e457, hx457_0⟩ := Kd.at_int HR0.out (ji4) p457 q457
     obtain rfl : ad456 = ad457 := (by injection e457)
     replace p457 := eq_true p457
     replace q457 := eq_true q457
     go_wp2
     repeat (go_quiet (fail); try go_wp2)
     go_roundg k1
     case measure => have := HK1.out; omega
     case rel => exact ⟨(wrap64 (x3_1 + 1)), (by first | rfl | (simp; done) | (simp [*]; done)), H', ⟨by have := HK1.out; omega⟩, by repeat (first | exact Drawn0.refl _ | apply Drawn0.step)⟩
   ·rw [if_neg c2] at H
    have c2b0 : decide (x3_1 < (l0.length : Int)) = false := decide_eq_false c2
    clear c2
    obtain rfl := Option.some.inj H
    go_wp2
    repeat (go_quiet (fail); try go_wp2)
    go_ret
    exact ⟨by first | rfl | (simp; done) | (simp [*]; done), by repeat (first | exact Drawn0.refl _ | apply Drawn0.step)⟩

/-! ### impl_GcdOf: function 162 -/
def impl_GcdOf.l0 : Nat → Int → Int → Option (Int)
 | 0, _, _ => none
 | k + 1, x0, x1 => if x0 = 0 then (some x1) else (impl_GcdOf.l0 k (Int.tmod x1 x0) x0)
def impl_GcdOf.f (k : Nat) (a0 : Int) (a1 : Int) : Option (Int) := (impl_allWithin.f k (([a0, a1] : List Int)) (-1000000) 1000000).bind fun t461 => (if t461 = true then (impl_GcdOf.l0 k (mx a0 (wrap64 (-a0))) (mx a1 (wrap64 (-a1)))) else (some 0))
theorem impl_GcdOf.mono_l : ∀ k, (∀ y0 y1, LeO (impl_GcdOf.l0 k y0 y1) (impl_GcdOf.l0 (k + 1) y0 y1))
 | 0 => fun _ _ r h => by simp [impl_GcdOf.l0] at h
 | k + 1 => by
  have ih0 := impl_GcdOf.mono_l k
  ·intro y0 y1
   unfold impl_GcdOf.l0
   repeat' first
   | (with_reducible first | exact ih0 _ _ | exact impl_allWithin.mono _ _ _ _ | exact LeO.refl _ | exact LeO.none _ | refine LeO.ite ?_ ?_ | refine LeO.bind ?_ (fun _ => ?_))
   | exact LeO.none _
   | refine LeO.ite ?_ ?_
   | refine LeO.bind ?_ (fun _ => ?_)
theorem impl_GcdOf.mono : ∀ a0 a1 k, LeO (impl_GcdOf.f k a0 a1) (impl_GcdOf.f (k + 1) a0 a1) := by
 intro a0 a1 k
 have ih0 := impl_GcdOf.mono_l k
 unfold impl_GcdOf.f
 repeat' first
   | (with_reducible first | exact ih0 _ _ | exact impl_allWithin.mono _ _ _ _ | exact LeO.refl _ | exact LeO.none _ | refine LeO.ite ?_ ?_ | refine LeO.bind ?_ (fun _ => ?_))
   | exact LeO.none _
   | refine LeO.ite ?_ ?_
   | refine LeO.bind ?_ (fun _ => ?_)
set_option maxHeartbeats 8000000 in
set_option maxRecDepth 100000 in
theorem impl_GcdOf.calls (k : Nat) (a0 : Int) (a1 : Int) (r : Int) (w : World) (h : impl_GcdOf.f k a0 a1 = some r) :
  Calls Try.prog 162 #[.int .i64 a0, .int .i64 a1] w fun e w' => e = .returned (.int .i64 r) ∧ Below w.heap.size w w' := by
 have HB := Aside0.mk (Below.refl w.heap.size w)
 have H : ((impl_allWithin.f k (([a0, a1] : List Int)) (-1000000) 1000000).bind fun t461 => (if t461 = true then (impl_GcdOf.l0 k (mx a0 (wrap64 (-a0))) (mx a1 (wrap64 (-a1)))) else (some 0))) = some r := h
 clear h
 obtain ⟨y458, Ny458⟩ : ∃ y_ : List Int, Aside0 (y_ = (([a0, a1] : List Int))) := ⟨_, ⟨rfl⟩⟩
 (try rw [Option.bind_some] at H)
 (try rw [← Ny458.out] at H)
 obtain ⟨t461, A3, H⟩ := zb H
 have HU4 := Aside0.mk H
 clear H
 go_enter Try.func162, Try.ntmps162
 go_upto_if 9 with (first | ((with_reducible refine gate_dst (N := 7) rfl ?_); refine Kd.R_lit (Kd.int .i64) _ 3 ?hg (N := 7) ?hd (xs := ([a0, a1] : List Int)) (inner := [.int .i64 a0, .int .i64 a1]) (ok := fun _ => True) (okp := fun _ => True) ?hr ?hp (fun _ hk => hk) trivial (Below.refl _ _) (Nat.le_refl _) (by simp) ?_; (case hd => rfl); (case hg => rfl); (case hr => first | (go_simp; done) | (go_simp; rfl)); (case hp => exact (Reps.one (show Kd.M (Kd.int .i64) _ _ _ a0 [.int .i64 a0] from rfl) (Reps.one (show Kd.M (Kd.int .i64) _ _ _ a1 [.int .i64 a1] from rfl) (Reps.none _ _)))); intro v459 w5 ho6 hb hg_ hnew_; clear hg_ hnew_; (first | rw [← Ny458.out] at ho6 | (simp only [Int.reduceToNat] at ho6; rw [← Ny458.out] at ho6)); have n0_ := Aside0.mk (Kd.R_lower ho6 (zS HB.out)); have n1_ := Aside0.mk (below_step (zB HB.out) hb); clear HB; have HO460 := n0_; have HB := n1_; clear n0_ n1_; clear hb ho6; obtain ⟨Ao7, co7, eo7⟩ := Kd.R_slice HO460.out; subst eo7) | ((with_reducible refine gate_callee (f := 115) rfl ?_); refine goesL_ (some 8) rfl rfl Try.func115 (by kernel_rfl) rfl #[.slice Ao7 y458.length co7, .int .i64 (-1000000), .int .i64 1000000] rfl (by (try simp only [za, zc, zn]); first | done | rfl) ?_; (with_reducible refine (impl_allWithin.calls k _ _ y458 (-1000000) 1000000 t461 _ ?side1 ?side2 A3.out).mono ?_); (case side1 => repeat (first | exact (Kd.R_reads' HO460.out).2.2 | (with_reducible refine Kd.C_alloc ?_ _) | (with_reducible refine Kd.C_drewN ?_ _) | (with_reducible refine Kd.C_drew ?_))); (case side2 => exact (Kd.R_reads' HO460.out).2.1); rintro e w8 ⟨rfl, hb⟩; refine ⟨_, rfl, ?_⟩; have n0_ := Aside0.mk (Kd.R_below (zR HO460.out) hb); have n1_ := Aside0.mk (below_step (zB HB.out) hb); clear HO460; clear HB; have HO460 := n0_; have HB := n1_; clear n0_ n1_; (try clear hb); (try clear hb2); (try clear hk); (try clear hi)))
 (try simp only [Act.put, List.setIfInBounds_toArray, List.set_cons_zero, List.set_cons_succ])
 have H := HU4.out
 clear HU4
 by_cases c9 : t461 = true
 ·subst c9
  rw [zT] at H
  obtain ⟨ji10, hji10⟩ : ∃ j_ : Int, (mx a0 (wrap64 (-a0))) = j_ := ⟨_, rfl⟩
  replace H : (impl_GcdOf.l0 k ji10 (mx a1 (wrap64 (-a1)))) = some r := by first | (rw [hji10] at H; exact H) | (simp only [hji10] at H ⊢; exact H)
  have hji10_ : (if a0 < (wrap64 (-a0)) then (wrap64 (-a0)) else a0) = ji10 := hji10
  obtain ⟨ji11, hji11⟩ : ∃ j_ : Int, (mx a1 (wrap64 (-a1))) = j_ := ⟨_, rfl⟩
  replace H : (impl_GcdOf.l0 k ji10 ji11) = some r := by first | (rw [hji11] at H; exact H) | (simp only [hji11] at H ⊢; exact H)
  have hji11_ : (if a1 < (wrap64 (-a1)) then (wrap64 (-a1)) else a1) = ji11 := hji11
  have H' := Aside0.mk H
  clear H
  go_wp2
  go_loopg [0, 1] k (fun kq v0 v1 w' => ∃ (x0_1 : Int) (x1_1 : Int), v0 = .int .i64 x0_1 ∧ v1 = .int .i64 x1_1 ∧ Aside0 (impl_GcdOf.l0 kq x0_1 x1_1 = some r) ∧ Aside0 (kq ≤ k) ∧ Aside0 (Below w.heap.size w w'))
  case atStart => exact ⟨(ji10), (ji11), (by first | rfl | (simp; done) | (simp only [← hji10] <;> (first | rfl | simp)) | (simp [*]; done)), (by first | rfl | (simp; done) | (simp only [← hji11] <;> (first | rfl | simp)) | (simp [*]; done)), H', ⟨Nat.le_refl _⟩, ⟨zB HB.out⟩⟩
  case round =>
   clear H'
   try clear c1
   try clear p2
   try clear p6
   try clear c9
   try clear c11
   obtain ⟨x0_1, x1_1, rfl, rfl, HA, HK1, HB⟩ := hrel
   cases gk with
   | zero => exact absurd HA.out (by simp [impl_GcdOf.l0])
   | succ k1 =>
    have H := HA.out
    clear HA
    simp only [impl_GcdOf.l0] at H
    by_cases c12 : x0_1 = 0
    ·rw [if_pos c12] at H
     have c12b0 : (x0_1 == 0) = true := beq_iff_eq.mpr c12
     have c12b1 : (x0_1 != 0) = false := bne_eq_false_iff_eq.mpr c12
     clear c12
     (first | rw [c12b0] | rw [c12b1] | (simp only [i64_w, i32_w]; rw [c12b0]) | skip)
     obtain rfl := Option.some.inj H
     go_wp2
     go_ret
     exact ⟨by first | rfl | (simp [errW_none, errW_some] <;> rfl) | (simp only [← hji10, ← hji11]; first | rfl | (simp [errW_none, errW_some] <;> rfl)) | (simp [*, errW_none, errW_some] <;> rfl), zB HB.out⟩
    ·rw [if_neg c12] at H
     have c12b0 : (x0_1 == 0) = false := beq_eq_false_iff_ne.mpr c12
     have c12b1 : (x0_1 != 0) = true := bne_iff_ne.mpr c12
     (first | rw [c12b0] | rw [c12b1] | (simp only [i64_w, i32_w]; rw [c12b0]) | skip)
     have H' := Aside0.mk H
     clear H
     go_wp2
     go_roundg k1
     case measure => have := HK1.out; omega
     case rel => exact ⟨(Int.tmod x1_1 x0_1), (x0_1), (by first | rfl | (simp; done) | (simp [*]; done)), (by first | rfl | (simp; done) | (simp [*]; done)), H', ⟨by have := HK1.out; omega⟩, ⟨zB HB.out⟩⟩
 ·replace c9 := Bool.eq_false_iff.mpr c9
  subst c9
  rw [zF] at H
  obtain rfl := Option.some.inj H
  go_wp2
  go_ret
  exact ⟨by first | rfl | (simp [errW_none, errW_some] <;> rfl) | (simp [*, errW_none, errW_some] <;> rfl), zB HB.out⟩

/-! ### impl_GcdOfList: function 141 -/
def impl_GcdOfList.l0 : Nat → Int → List Int → Int → Int → Option (Int)
 | 0, _, _, _, _ => none
 | k + 1, x3, x6, x7, x8 => if x8 < x7 then (if 0 ≤ x8 then (if x8 < (x6.length : Int) then ((impl_GcdOf.f k x3 (rd x6 x8)).bind fun t463 => (impl_GcdOfList.l0 k t463 x6 x7 (wrap64 (x8 + 1)))) else (none)) else (none)) else (some x3)
def impl_GcdOfList.f (k : Nat) (l0 : List Int) : Option (Int) := impl_GcdOfList.l0 k 0 l0 (l0.length : Int) 0
theorem impl_GcdOfList.mono_l : ∀ k, (∀ y0 y1 y2 y3, LeO (impl_GcdOfList.l0 k y0 y1 y2 y3) (impl_GcdOfList.l0 (k + 1) y0 y1 y2 y3))
 | 0 => fun _ _ _ _ r h => by simp [impl_GcdOfList.l0] at h
 | k + 1 => by
  have ih0 := impl_GcdOfList.mono_l k
  ·intro y0 y1 y2 y3
   unfold impl_GcdOfList.l0
   repeat' first
   | (with_reducible first | exact ih0 _ _ _ _ | exact impl_GcdOf.mono _ _ _ | exact LeO.refl _ | exact LeO.none _ | refine LeO.ite ?_ ?_ | refine LeO.bind ?_ (fun _ => ?_))
   | exact LeO.none _
   | refine LeO.ite ?_ ?_
   | refine LeO.bind ?_ (fun _ => ?_)
theorem impl_GcdOfList.mono : ∀ a0 k, LeO (impl_GcdOfList.f k a0) (impl_GcdOfList.f (k + 1) a0) := by
 intro a0 k
 have ih0 := impl_GcdOfList.mono_l k
 unfold impl_GcdOfList.f
 repeat' first
   | (with_reducible first | exact ih0 _ _ _ _ | exact impl_GcdOf.mono _ _ _ | exact LeO.refl _ | exact LeO.none _ | refine LeO.ite ?_ ?_ | refine LeO.bind ?_ (fun _ => ?_))
   | exact LeO.none _
   | refine LeO.ite ?_ ?_
   | refine LeO.bind ?_ (fun _ => ?_)
set_option maxHeartbeats 8000000 in
set_option maxRecDepth 100000 in
theorem impl_GcdOfList.calls (k : Nat) (A0 : Option Addr) (c0 : Nat) (l0 : List Int) (r : Int) (w : World) (hr0 : Kd.C (Kd.int .i64) w A0 l0.length l0) (hc0 : l0.length ≤ c0) (h : impl_GcdOfList.f k l0 = some r) :
  Calls Try.prog 141 #[.slice A0 l0.length c0] w fun e w' => e = .returned (.int .i64 r) ∧ Below w.heap.size w w' := by
 have HR0 := Aside0.mk hr0
 have HC0 := Aside0.mk hc0
 clear hr0 hc0
 have HB := Aside0.mk (Below.refl w.heap.size w)
 have H : (impl_GcdOfList.l0 k 0 l0 (l0.length : Int) 0) = some r := h
 clear h
 have H' := Aside0.mk H
 clear H
 go_enter Try.func141, Try.ntmps141
 go_wp2
 go_loopg [3, 8] k (fun kq v3 v8 w' => ∃ (x3_1 : Int) (x8_1 : Int), v3 = .int .i64 x3_1 ∧ v8 = .int .i64 x8_1 ∧ Aside0 (impl_GcdOfList.l0 kq x3_1 l0 (l0.length : Int) x8_1 = some r) ∧ Aside0 (kq ≤ k) ∧ Aside0 (Below w.heap.size w w'))
 case atStart => exact ⟨(0), (0), (by first | rfl | (simp; done) | (simp [*]; done)), (by first | rfl | (simp; done) | (simp [*]; done)), H', ⟨Nat.le_refl _⟩, ⟨zB HB.out⟩⟩
 case round =>
  clear H'
  try clear c1
  obtain ⟨x3_1, x8_1, rfl, rfl, HA, HK1, HB⟩ := hrel
  cases gk with
  | zero => exact absurd HA.out (by simp [impl_GcdOfList.l0])
  | succ k1 =>
   have H := HA.out
   clear HA
   simp only [impl_GcdOfList.l0] at H
   by_cases c2 : x8_1 < (l0.length : Int)
   ·rw [if_pos c2] at H
    have c2b0 : decide (x8_1 < (l0.length : Int)) = true := decide_eq_true c2
    clear c2
    obtain ⟨c3, H⟩ := zi H
    have c3b0 : decide (0 ≤ x8_1) = true := decide_eq_true c3
    clear c3
    obtain ⟨c4, H⟩ := zi H
    have c4b0 : decide (x8_1 < (l0.length : Int)) = true := decide_eq_true c4
    clear c4
    obtain ⟨t463, A5, H⟩ := zb H
    have H' := Aside0.mk H
    clear H
    have p462 : 0 ≤ (x8_1 : Int) := of_decide_eq_true (by assumption)
    have q462 : x8_1 < (l0.length : Int) := of_decide_eq_true (by assumption)
    obtain ⟨ad462, e462, hx462_0⟩ := Kd.at_int HR0.out x8_1 p462 q462
    cases e462
    (try replace hx462_0 := (HB.out.cell (World.block_lt_of_cell? w _ hx462_0)).trans hx462_0)
    replace p462 := eq_true p462
    replace q462 := eq_true q462
    go_wp2_with (first | ((with_reducible refine gate_callee (f := 162) rfl ?_); refine goesL_ (some 14) rfl rfl Try.func162 (by kernel_rfl) rfl #[.int .i64 x3_1, .int .i64 (rd l0 x8_1)] rfl (by (try simp only [za, zc, zn]); first | done | rfl) ?_; (with_reducible refine (impl_GcdOf.calls k1 x3_1 (rd l0 x8_1) t463 _ A5.out).mono ?_); rintro e w6 ⟨rfl, hb⟩; refine ⟨_, rfl, ?_⟩; have n0_ := Aside0.mk (below_step (zB HB.out) hb); clear HB; have HB := n0_; clear n0_; (try clear hb); (try clear hb2); (try clear hk); (try clear hi)))
    go_roundg k1
    case measure => have := HK1.out; omega
    case rel => exact ⟨(t463), (wrap64 (x8_1 + 1)), (by first | rfl | (simp; done) | (simp [*]; done)), (by first | rfl | (simp; done) | (simp [*]; done)), H', ⟨by have := HK1.out; omega⟩, ⟨zB HB.out⟩⟩
   ·rw [if_neg c2] at H
    have c2b0 : decide (x8_1 < (l0.length : Int)) = false := decide_eq_false c2
    clear c2
    obtain rfl := Option.some.inj H
    go_wp2
    go_ret
    exact ⟨by first | rfl | (simp [errW_none, errW_some] <;> rfl) | (simp [*, errW_none, errW_some] <;> rfl), zB HB.out⟩

/-! ### impl_IsSemigroup: function 79 -/
mutual
def impl_IsSemigroup.j0 : Nat → List Int → Bool → Option (Bool)
 | 0, _, _ => none
 | k + 1, x3, x27 => if x27 = true then (some false) else (impl_IsSemigroup.l0 k x3 1)
def impl_IsSemigroup.l0 : Nat → List Int → Int → Option (Bool)
 | 0, _, _ => none
 | k + 1, x3, x4 => if x4 < (x3.length : Int) then (if 0 ≤ x4 then (if x4 ≤ (x3.length : Int) then ((impl_Generates.f k (x3.take (x4 : Int).toNat) (rd x3 x4)).bind fun t471 => (if t471 = true then (some false) else (impl_IsSemigroup.l0 k x3 (wrap64 (x4 + 1))))) else (none)) else (none)) else (if 0 < (x3.length : Int) then ((impl_leasts.f k x3 (rd x3 0)).bind fun t473 => (impl_IsSemigroup.l1 k x3 t473 (t473.length : Int) 0)) else (none))
def impl_IsSemigroup.l1 : Nat → List Int → List Int → Int → Int → Option (Bool)
 | 0, _, _, _, _ => none
 | k + 1, x3, x46, x47, x48 => if x48 < x47 then (if 0 ≤ x48 then (if x48 < (x46.length : Int) then (if 0 < (x3.length : Int) then (if (wrap64 ((rd x46 x48) - (rd x3 0))) ≥ 200 then (some false) else (impl_IsSemigroup.l1 k x3 x46 x47 (wrap64 (x48 + 1)))) else (none)) else (none)) else (none)) else (some true)
end
def impl_IsSemigroup.f (k : Nat) (l0_0 : List Int) : Option (Bool) := (impl_within.f (l0_0.length : Int) 1 12).bind fun t465 => (if t465 = true then ((impl_allWithin.f k l0_0 1 60).bind fun t466 => (if t466 = true then ((impl_IsAscending.f k l0_0).bind fun t467 => (if t467 = true then ((impl_GcdOfList.f k l0_0).bind fun t468 => (impl_IsSemigroup.j0 k l0_0 (t468 != 1))) else (impl_IsSemigroup.j0 k l0_0 true))) else (impl_IsSemigroup.j0 k l0_0 true))) else (impl_IsSemigroup.j0 k l0_0 true))
theorem impl_IsSemigroup.mono_l : ∀ k, (∀ y0 y1, LeO (impl_IsSemigroup.j0 k y0 y1) (impl_IsSemigroup.j0 (k + 1) y0 y1)) ∧ (∀ y0 y1, LeO (impl_IsSemigroup.l0 k y0 y1) (impl_IsSemigroup.l0 (k + 1) y0 y1)) ∧ (∀ y0 y1 y2 y3, LeO (impl_IsSemigroup.l1 k y0 y1 y2 y3) (impl_IsSemigroup.l1 (k + 1) y0 y1 y2 y3))
 | 0 => ⟨fun _ _ r h => by simp [impl_IsSemigroup.j0] at h, fun _ _ r h => by simp [impl_IsSemigroup.l0] at h, fun _ _ _ _ r h => by simp [impl_IsSemigroup.l1] at h⟩
 | k + 1 => by
  obtain ⟨ih0, ih1, ih2⟩ := impl_IsSemigroup.mono_l k
  refine ⟨?_, ?_, ?_⟩
  ·intro y0 y1
   unfold impl_IsSemigroup.j0
   repeat' first
   | (with_reducible first | exact ih0 _ _ | exact ih1 _ _ | exact ih2 _ _ _ _ | exact impl_GcdOfList.mono _ _ | exact impl_Generates.mono _ _ _ | exact impl_IsAscending.mono _ _ | exact impl_allWithin.mono _ _ _ _ | exact impl_leasts.mono _ _ _ | exact LeO.refl _ | exact LeO.none _ | refine LeO.ite ?_ ?_ | refine LeO.bind ?_ (fun _ => ?_))
   | exact LeO.none _
   | refine LeO.ite ?_ ?_
   | refine LeO.bind ?_ (fun _ => ?_)
  ·intro y0 y1
   unfold impl_IsSemigroup.l0
   repeat' first
   | (with_reducible first | exact ih0 _ _ | exact ih1 _ _ | exact ih2 _ _ _ _ | exact impl_GcdOfList.mono _ _ | exact impl_Generates.mono _ _ _ | exact impl_IsAscending.mono _ _ | exact impl_allWithin.mono _ _ _ _ | exact impl_leasts.mono _ _ _ | exact LeO.refl _ | exact LeO.none _ | refine LeO.ite ?_ ?_ | refine LeO.bind ?_ (fun _ => ?_))
   | exact LeO.none _
   | refine LeO.ite ?_ ?_
   | refine LeO.bind ?_ (fun _ => ?_)
  ·intro y0 y1 y2 y3
   unfold impl_IsSemigroup.l1
   repeat' first
   | (with_reducible first | exact ih0 _ _ | exact ih1 _ _ | exact ih2 _ _ _ _ | exact impl_GcdOfList.mono _ _ | exact impl_Generates.mono _ _ _ | exact impl_IsAscending.mono _ _ | exact impl_allWithin.mono _ _ _ _ | exact impl_leasts.mono _ _ _ | exact LeO.refl _ | exact LeO.none _ | refine LeO.ite ?_ ?_ | refine LeO.bind ?_ (fun _ => ?_))
   | exact LeO.none _
   | refine LeO.ite ?_ ?_
   | refine LeO.bind ?_ (fun _ => ?_)
theorem impl_IsSemigroup.mono : ∀ a0 k, LeO (impl_IsSemigroup.f k a0) (impl_IsSemigroup.f (k + 1) a0) := by
 intro a0 k
 obtain ⟨ih0, ih1, ih2⟩ := impl_IsSemigroup.mono_l k
 unfold impl_IsSemigroup.f
 repeat' first
   | (with_reducible first | exact ih0 _ _ | exact ih1 _ _ | exact ih2 _ _ _ _ | exact impl_GcdOfList.mono _ _ | exact impl_Generates.mono _ _ _ | exact impl_IsAscending.mono _ _ | exact impl_allWithin.mono _ _ _ _ | exact impl_leasts.mono _ _ _ | exact LeO.refl _ | exact LeO.none _ | refine LeO.ite ?_ ?_ | refine LeO.bind ?_ (fun _ => ?_))
   | exact LeO.none _
   | refine LeO.ite ?_ ?_
   | refine LeO.bind ?_ (fun _ => ?_)
def impl_IsSemigroup.T7 : Bool × List (List Nat × List Nat) := (true, [([], []), ([], []), ([0, 1], [0, 1]), ([], []), ([], []), ([3, 4], [3, 4]), ([5], [5]), ([2, 6], [2, 6])])
def impl_IsSemigroup.B7 : List Nat := [0, 0, 3, 0, 0, 24, 56, 127]
theorem impl_IsSemigroup.tab7 : rtab .any (opsOf Try.f79 7) = impl_IsSemigroup.T7 := by kernel_rfl
theorem impl_IsSemigroup.bits7 : waitsOk impl_IsSemigroup.T7.2 impl_IsSemigroup.B7 = true := by kernel_rfl
set_option maxHeartbeats 8000000 in
set_option maxRecDepth 100000 in
theorem impl_IsSemigroup.calls (k : Nat) (A0_0 : Option Addr) (c0_0 : Nat) (l0_0 : List Int) (r : Bool) (w : World) (hr0_0 : Kd.C (Kd.int .i64) w A0_0 l0_0.length l0_0) (hc0_0 : l0_0.length ≤ c0_0) (h : impl_IsSemigroup.f k l0_0 = some r) :
  Calls Try.prog 79 #[.agg #[.slice A0_0 l0_0.length c0_0]] w fun e w' => e = .returned (.bool r) ∧ Below w.heap.size w w' := by
 have hu40 := Try.underlying40
 have HR0_0 := Aside0.mk hr0_0
 have HC0_0 := Aside0.mk hc0_0
 clear hr0_0 hc0_0
 have HB := Aside0.mk (Below.refl w.heap.size w)
 have H : ((impl_within.f (l0_0.length : Int) 1 12).bind fun t465 => (if t465 = true then ((impl_allWithin.f k l0_0 1 60).bind fun t466 => (if t466 = true then ((impl_IsAscending.f k l0_0).bind fun t467 => (if t467 = true then ((impl_GcdOfList.f k l0_0).bind fun t468 => (impl_IsSemigroup.j0 k l0_0 (t468 != 1))) else (impl_IsSemigroup.j0 k l0_0 true))) else (impl_IsSemigroup.j0 k l0_0 true))) else (impl_IsSemigroup.j0 k l0_0 true))) = some r := h
 clear h
 have HC2 := Aside0.mk H
 clear H
 go_enter Try.func79, Try.ntmps79
 go_upto_region 2 with (first | ((with_reducible refine gate_dst (N := 1) rfl ?_); refine box_event ?hg (N := 1) ?hd (cs := #[.slice A0_0 l0_0.length c0_0]) (t := 40) ?hr ?_; (case hd => rfl); (case hg => rfl); (case hr => first | (go_simp; done) | (go_simp; rfl)); intro gb464 hg w3 hbox hb; have n0_ := Aside0.mk (below_step (zB HB.out) hb); have n1_ := Aside0.mk (hbox); have n2_ := Aside0.mk ((by rw [hg]; exact (zS HB.out) : w.heap.size ≤ gb464)); have n3_ := Aside0.mk ((by rw [hg]; exact (zS HB.out) : w.heap.size ≤ gb464)); clear HB; have HB := n0_; have BK464 := n1_; have GW464 := n2_; have GE464 := n3_; clear n0_ n1_ n2_ n3_; clear hb hbox hg; have hcz4_0 : w3.cell? ⟨gb464, 0, none⟩ = some (.slice A0_0 l0_0.length c0_0) := (blk_cell BK464.out 0).trans rfl; have hfz4_0 := blk_frozen BK464.out 0))
 (try simp only [Act.put, List.setIfInBounds_toArray, List.set_cons_zero, List.set_cons_succ])
 go_cut [27] (fun v27 wc => ∃ (kq : Nat) (x27_1 : Bool), v27 = .bool x27_1 ∧ Aside0 (impl_IsSemigroup.j0 kq l0_0 x27_1 = some r) ∧ Aside0 (kq ≤ k) ∧ Aside0 (wc.heap[gb464]? = some (.cells #[(.slice A0_0 l0_0.length c0_0)] 40 (0, 0))) ∧ Aside0 (Below w.heap.size w wc))
 case first =>
  have H := HC2.out
  clear HC2
  obtain ⟨t465, A5, H⟩ := zb H
  by_cases c6 : t465 = true
  ·subst c6
   rw [zT] at H
   obtain ⟨t466, A7, H⟩ := zb H
   by_cases c8 : t466 = true
   ·subst c8
    rw [zT] at H
    obtain ⟨t467, A9, H⟩ := zb H
    by_cases c10 : t467 = true
    ·subst c10
     rw [zT] at H
     obtain ⟨t468, A11, H⟩ := zb H
     have H' := Aside0.mk H
     clear H
     go_wp2_with (first | ((with_reducible refine gate_callee (f := 119) rfl ?_); refine goesL_ (some 11) rfl rfl Try.func119 (by kernel_rfl) rfl #[.int .i64 (l0_0.length : Int), .int .i64 1, .int .i64 12] rfl (by (try simp only [za, zc, zn]); first | done | rfl | (simp only [List.length_drop, List.length_take]; rfl)) ?_; (with_reducible refine (impl_within.calls (l0_0.length : Int) 1 12 true _ A5.out).mono ?_); rintro e w12 ⟨rfl, hb⟩; refine ⟨_, rfl, ?_⟩; have n0_ := Aside0.mk (blk_below (g := gb464) (o := .cells #[.slice A0_0 l0_0.length c0_0] 40 (0, 0)) (zk BK464.out) hb); have n1_ := Aside0.mk (below_step (by repeat (first | (with_reducible first | exact HB.out | apply below_alloc | apply pw_below_drewN | apply below_drew1 | refine below_set ?_ GE464.out) | exact HB.out)) hb); clear BK464; clear HB; have BK464 := n0_; have HB := n1_; clear n0_ n1_; (try clear hb); (try clear hb2); (try clear hk); (try clear hi)) | (go_at_call 115; (with_reducible refine (impl_allWithin.calls k _ _ l0_0 1 60 true _ ?side1 ?side2 A7.out).mono ?_); (case side1 => exact zC (Kd.C_below HR0_0.out HB.out)); (case side2 => exact HC0_0.out); rintro e w13 ⟨rfl, hb⟩; have n0_ := Aside0.mk (blk_below (g := gb464) (o := .cells #[.slice A0_0 l0_0.length c0_0] 40 (0, 0)) (zk BK464.out) hb); have n1_ := Aside0.mk (below_step (by repeat (first | (with_reducible first | exact HB.out | apply below_alloc | apply pw_below_drewN | apply below_drew1 | refine below_set ?_ GE464.out) | exact HB.out)) hb); clear BK464; clear HB; have BK464 := n0_; have HB := n1_; clear n0_ n1_; (try clear hb); (try clear hb2); (try clear hk); (try clear hi)) | (go_at_call 140; (with_reducible refine (impl_IsAscending.calls k _ _ l0_0 true _ ?side1 ?side2 A9.out).mono ?_); (case side1 => exact zC (Kd.C_below HR0_0.out HB.out)); (case side2 => exact HC0_0.out); rintro e w' ⟨rfl, ⟨nd, rfl⟩⟩) | (go_at_call 141; (with_reducible refine (impl_GcdOfList.calls k _ _ l0_0 t468 _ ?side1 ?side2 A11.out).mono ?_); (case side1 => exact zC (Kd.C_below HR0_0.out (by repeat (first | (with_reducible first | exact HB.out | apply below_alloc | apply pw_below_drewN | apply below_drew1 | refine below_set ?_ GE464.out) | exact HB.out)))); (case side2 => exact HC0_0.out); rintro e w14 ⟨rfl, hb⟩; have n0_ := Aside0.mk (blk_below (g := gb464) (o := .cells #[.slice A0_0 l0_0.length c0_0] 40 (0, 0)) (zk BK464.out) hb); have n1_ := Aside0.mk (below_step (by repeat (first | (with_reducible first | exact HB.out | apply below_alloc | apply pw_below_drewN | apply below_drew1 | refine below_set ?_ GE464.out) | exact HB.out)) hb); clear BK464; clear HB; have BK464 := n0_; have HB := n1_; clear n0_ n1_; (try clear hb); (try clear hb2); (try clear hk); (try clear hi)))
     go_meet
     case rel => exact ⟨_, ((t468 != 1)), (by first | rfl | (simp; done) | (simp [*]; done)), H', ⟨by first | omega | exact Nat.le_refl _⟩, ⟨zk BK464.out⟩, ⟨by repeat (first | (with_reducible first | exact HB.out | apply below_alloc | apply pw_below_drewN | apply below_drew1 | refine below_set ?_ GE464.out) | exact HB.out)⟩⟩
    ·replace c10 := Bool.eq_false_iff.mpr c10
     subst c10
     rw [zF] at H
     have H' := Aside0.mk H
     clear H
     go_wp2_with (first | ((with_reducible refine gate_callee (f := 119) rfl ?_); refine goesL_ (some 11) rfl rfl Try.func119 (by kernel_rfl) rfl #[.int .i64 (l0_0.length : Int), .int .i64 1, .int .i64 12] rfl (by (try simp only [za, zc, zn]); first | done | rfl | (simp only [List.length_drop, List.length_take]; rfl)) ?_; (with_reducible refine (impl_within.calls (l0_0.length : Int) 1 12 true _ A5.out).mono ?_); rintro e w15 ⟨rfl, hb⟩; refine ⟨_, rfl, ?_⟩; have n0_ := Aside0.mk (blk_below (g := gb464) (o := .cells #[.slice A0_0 l0_0.length c0_0] 40 (0, 0)) (zk BK464.out) hb); have n1_ := Aside0.mk (below_step (by repeat (first | (with_reducible first | exact HB.out | apply below_alloc | apply pw_below_drewN | apply below_drew1 | refine below_set ?_ GE464.out) | exact HB.out)) hb); clear BK464; clear HB; have BK464 := n0_; have HB := n1_; clear n0_ n1_; (try clear hb); (try clear hb2); (try clear hk); (try clear hi)) | (go_at_call 115; (with_reducible refine (impl_allWithin.calls k _ _ l0_0 1 60 true _ ?side1 ?side2 A7.out).mono ?_); (case side1 => exact zC (Kd.C_below HR0_0.out HB.out)); (case side2 => exact HC0_0.out); rintro e w16 ⟨rfl, hb⟩; have n0_ := Aside0.mk (blk_below (g := gb464) (o := .cells #[.slice A0_0 l0_0.length c0_0] 40 (0, 0)) (zk BK464.out) hb); have n1_ := Aside0.mk (below_step (by repeat (first | (with_reducible first | exact HB.out | apply below_alloc | apply pw_below_drewN | apply below_drew1 | refine below_set ?_ GE464.out) | exact HB.out)) hb); clear BK464; clear HB; have BK464 := n0_; have HB := n1_; clear n0_ n1_; (try clear hb); (try clear hb2); (try clear hk); (try clear hi)) | (go_at_call 140; (with_reducible refine (impl_IsAscending.calls k _ _ l0_0 false _ ?side1 ?side2 A9.out).mono ?_); (case side1 => exact zC (Kd.C_below HR0_0.out HB.out)); (case side2 => exact HC0_0.out); rintro e w' ⟨rfl, ⟨nd, rfl⟩⟩))
     go_meet
     case rel => exact ⟨_, (true), (by first | rfl | (simp; done) | (simp [*]; done)), H', ⟨by first | omega | exact Nat.le_refl _⟩, ⟨zk BK464.out⟩, ⟨by repeat (first | (with_reducible first | exact HB.out | apply below_alloc | apply pw_below_drewN | apply below_drew1 | refine below_set ?_ GE464.out) | exact HB.out)⟩⟩
   ·replace c8 := Bool.eq_false_iff.mpr c8
    subst c8
    rw [zF] at H
    have H' := Aside0.mk H
    clear H
    go_wp2_with (first | ((with_reducible refine gate_callee (f := 119) rfl ?_); refine goesL_ (some 11) rfl rfl Try.func119 (by kernel_rfl) rfl #[.int .i64 (l0_0.length : Int), .int .i64 1, .int .i64 12] rfl (by (try simp only [za, zc, zn]); first | done | rfl | (simp only [List.length_drop, List.length_take]; rfl)) ?_; (with_reducible refine (impl_within.calls (l0_0.length : Int) 1 12 true _ A5.out).mono ?_); rintro e w17 ⟨rfl, hb⟩; refine ⟨_, rfl, ?_⟩; have n0_ := Aside0.mk (blk_below (g := gb464) (o := .cells #[.slice A0_0 l0_0.length c0_0] 40 (0, 0)) (zk BK464.out) hb); have n1_ := Aside0.mk (below_step (by repeat (first | (with_reducible first | exact HB.out | apply below_alloc | apply pw_below_drewN | apply below_drew1 | refine below_set ?_ GE464.out) | exact HB.out)) hb); clear BK464; clear HB; have BK464 := n0_; have HB := n1_; clear n0_ n1_; (try clear hb); (try clear hb2); (try clear hk); (try clear hi)) | (go_at_call 115; (with_reducible refine (impl_allWithin.calls k _ _ l0_0 1 60 false _ ?side1 ?side2 A7.out).mono ?_); (case side1 => exact zC (Kd.C_below HR0_0.out HB.out)); (case side2 => exact HC0_0.out); rintro e w18 ⟨rfl, hb⟩; have n0_ := Aside0.mk (blk_below (g := gb464) (o := .cells #[.slice A0_0 l0_0.length c0_0] 40 (0, 0)) (zk BK464.out) hb); have n1_ := Aside0.mk (below_step (by repeat (first | (with_reducible first | exact HB.out | apply below_alloc | apply pw_below_drewN | apply below_drew1 | refine below_set ?_ GE464.out) | exact HB.out)) hb); clear BK464; clear HB; have BK464 := n0_; have HB := n1_; clear n0_ n1_; (try clear hb); (try clear hb2); (try clear hk); (try clear hi)))
    go_meet
    case rel => exact ⟨_, (true), (by first | rfl | (simp; done) | (simp [*]; done)), H', ⟨by first | omega | exact Nat.le_refl _⟩, ⟨zk BK464.out⟩, ⟨by repeat (first | (with_reducible first | exact HB.out | apply below_alloc | apply pw_below_drewN | apply below_drew1 | refine below_set ?_ GE464.out) | exact HB.out)⟩⟩
  ·replace c6 := Bool.eq_false_iff.mpr c6
   subst c6
   rw [zF] at H
   have H' := Aside0.mk H
   clear H
   go_wp2_with (first | ((with_reducible refine gate_callee (f := 119) rfl ?_); refine goesL_ (some 11) rfl rfl Try.func119 (by kernel_rfl) rfl #[.int .i64 (l0_0.length : Int), .int .i64 1, .int .i64 12] rfl (by (try simp only [za, zc, zn]); first | done | rfl | (simp only [List.length_drop, List.length_take]; rfl)) ?_; (with_reducible refine (impl_within.calls (l0_0.length : Int) 1 12 false _ A5.out).mono ?_); rintro e w19 ⟨rfl, hb⟩; refine ⟨_, rfl, ?_⟩; have n0_ := Aside0.mk (blk_below (g := gb464) (o := .cells #[.slice A0_0 l0_0.length c0_0] 40 (0, 0)) (zk BK464.out) hb); have n1_ := Aside0.mk (below_step (by repeat (first | (with_reducible first | exact HB.out | apply below_alloc | apply pw_below_drewN | apply below_drew1 | refine below_set ?_ GE464.out) | exact HB.out)) hb); clear BK464; clear HB; have BK464 := n0_; have HB := n1_; clear n0_ n1_; (try clear hb); (try clear hb2); (try clear hk); (try clear hi)))
   go_meet
   case rel => exact ⟨_, (true), (by first | rfl | (simp; done) | (simp [*]; done)), H', ⟨by first | omega | exact Nat.le_refl _⟩, ⟨zk BK464.out⟩, ⟨by repeat (first | (with_reducible first | exact HB.out | apply below_alloc | apply pw_below_drewN | apply below_drew1 | refine below_set ?_ GE464.out) | exact HB.out)⟩⟩
 case rest =>
  clear HC2
  try clear c1
  try clear p2
  try clear c6
  try clear c7
  try clear c8
  try clear c10
  try clear c11
  try clear hcz4_0
  try clear hfz4_0
  obtain ⟨kq, x27_1, rfl, HA, HJ1, BK464, HB⟩ := hcut
  cases kq with
  | zero => exact absurd HA.out (by simp [impl_IsSemigroup.j0])
  | succ kj1 =>
   have H := HA.out
   clear HA
   simp only [impl_IsSemigroup.j0] at H
   by_cases c20 : x27_1 = true
   ·subst c20
    rw [zT] at H
    obtain rfl := Option.some.inj H
    go_wp2
    go_ret
    exact ⟨by first | rfl | (simp [errW_none, errW_some] <;> rfl) | (simp [*, errW_none, errW_some] <;> rfl), by repeat (first | (with_reducible first | exact HB.out | apply below_alloc | apply pw_below_drewN | apply below_drew1 | refine below_set ?_ GE464.out) | exact HB.out)⟩
   ·replace c20 := Bool.eq_false_iff.mpr c20
    subst c20
    rw [zF] at H
    have H' := Aside0.mk H
    clear H
    go_wp2
    go_loopg [4] kj1 (fun kq v4 w' => ∃ (x4_2 : Int), v4 = .int .i64 x4_2 ∧ Aside0 (impl_IsSemigroup.l0 kq l0_0 x4_2 = some r) ∧ Aside0 (kq ≤ kj1) ∧ Aside0 (w'.heap[gb464]? = some (.cells #[(.slice A0_0 l0_0.length c0_0)] 40 (0, 0))) ∧ Aside0 (Below w.heap.size w w'))
    case atStart => exact ⟨(1), (by first | rfl | (simp; done) | (simp [*]; done)), H', ⟨Nat.le_refl _⟩, ⟨zk BK464.out⟩, ⟨by repeat (first | (with_reducible first | exact HB.out | apply below_alloc | apply pw_below_drewN | apply below_drew1 | refine below_set ?_ GE464.out) | exact HB.out)⟩⟩
    case round =>
     clear H'
     try clear c1
     try clear c2
     try clear p2
     try clear c6
     try clear c7
     try clear c8
     try clear c10
     try clear c11
     try clear c20
     try clear hcz4_0
     try clear hfz4_0
     try clear p2
     obtain ⟨x4_2, rfl, HA, HK2, BK464, HB⟩ := hrel
     cases gk with
     | zero => exact absurd HA.out (by simp [impl_IsSemigroup.l0])
     | succ k2 =>
      have H := HA.out
      clear HA
      simp only [impl_IsSemigroup.l0] at H
      by_cases c21 : x4_2 < (l0_0.length : Int)
      ·rw [if_pos c21] at H
       have c21b0 : decide (x4_2 < (l0_0.length : Int)) = true := decide_eq_true c21
       clear c21
       obtain ⟨c22, H⟩ := zi H
       have c22b0 := eq_true c22
       have c22b1 : decide (0 ≤ x4_2) = true := decide_eq_true c22
       clear c22
       obtain ⟨c23, H⟩ := zi H
       have c23b0 := eq_true c23
       have c23b1 : decide (x4_2 ≤ (l0_0.length : Int)) = true := decide_eq_true c23
       clear c23
       obtain ⟨t471, A24, H⟩ := zb H
       have HU25 := Aside0.mk H
       clear H
       try go_wp2
       have n0_ := Aside0.mk (blk_drew BK464.out)
       have n1_ := Aside0.mk (below_drew1 HB.out)
       clear BK464
       clear HB
       have BK464 := n0_
       have HB := n1_
       clear n0_ n1_
       obtain ⟨i027, hi027, _, hsz27, _⟩ := info_parts info3
       obtain ⟨hcut27, hA27, hC27⟩ := print_take_of (P := Try.prog) (Value.int .i64) 0 33 3 .i64 Try.underlying33 hi027 hsz27 A0_0 c0_0 l0_0 x4_2 (of_decide_eq_true (by assumption)) (of_decide_eq_true (by assumption)) HC0_0.out
       have HR469 := Aside0.mk (Kd.C_of_reads (h1 := fun _ => rfl) (hA27 _ (Kd.reads_of_C HR0_0.out)))
       have HC469 := Aside0.mk hC27
       clear hA27 hC27 hi027 hsz27
       have p470 : 0 ≤ (x4_2 : Int) := of_decide_eq_true (by assumption)
       have q470 : x4_2 < (l0_0.length : Int) := of_decide_eq_true (by assumption)
       obtain ⟨ad470, e470, hx470_0⟩ := Kd.at_int HR0_0.out x4_2 p470 q470
       have hw470_0 := hx470_0
       cases e470
       (try replace hx470_0 := (HB.out.cell (World.block_lt_of_cell? w _ hx470_0)).trans hx470_0)
       replace p470 := eq_true p470
       replace q470 := eq_true q470
       refine start_ (n := 8) (S := fun w' => w'.cell? (ad470.add (x4_2).toNat) = some (.int .i64 (rd l0_0 x4_2))) (ds := []) bA6 (by kernel_rfl) rfl rfl (((HB.out.cell (World.block_lt_of_cell? w _ hw470_0)).trans hw470_0)) (fun hHeld => ?_); refine with_tabW impl_IsSemigroup.tab7 impl_IsSemigroup.bits7 (fun HT_ HW_ => ?_)
       generalize wr.drew = w26 at BK464 HB HR469 hx470_0 hHeld ⊢
       refine pure_ (i := 0) (N := some 34) (v := ?_) (a' := ?_) bA13 rfl rfl (any_of HT_.out (by kernel_rfl)) (fun _ _ _ h => h) (Or.inl ⟨by rfl, ?_⟩) ?_ ?_
       rotate_left
       ·intro w'
        go_simp
        with_reducible rfl
       rotate_left
       ·simp only [Act.put, qA, qB, qC, i64_w, i32_w]
        rfl
       refine pure_ (i := 1) (N := some 35) (v := ?_) (a' := ?_) #[true, true, false, false, false, false, false, false] rfl rfl (any_of HT_.out (by kernel_rfl)) (fun _ _ _ h => h) (Or.inl ⟨by rfl, ?_⟩) ?_ ?_
       rotate_left
       ·intro w'
        go_simp
        with_reducible rfl
       rotate_left
       ·simp only [Act.put, qA, qB, qC, i64_w, i32_w]
        rfl
       refine pure_ (i := 2) (N := some 36) (v := ?_) (a' := ?_) bA26 rfl rfl (any_of HT_.out (by kernel_rfl)) (fun _ _ _ h => h) (Or.inl ⟨by rfl, ?_⟩) ?_ ?_
       rotate_left
       ·intro w'
        go_simp
        with_reducible rfl
       rotate_left
       ·simp only [Act.put, qA, qB, qC, i64_w, i32_w]
        rfl
       refine pure_ (i := 3) (N := some 37) (v := ?_) (a' := ?_) bA35 rfl rfl (any_of HT_.out (by kernel_rfl)) (fun _ _ _ h => h) (Or.inl ⟨by rfl, ?_⟩) ?_ ?_
       rotate_left
       ·intro w'
        go_simp
        with_reducible rfl
       rotate_left
       ·simp only [Act.put, qA, qB, qC, i64_w, i32_w]
        rfl
       refine pure_ (i := 4) (N := some 38) (v := ?_) (a' := ?_) bA43 rfl rfl (any_of HT_.out (by kernel_rfl)) (fun _ _ _ h => h) (Or.inl ⟨by rfl, ?_⟩) ?_ ?_
       rotate_left
       ·intro w'
        go_simp
        with_reducible rfl
       rotate_left
       ·simp only [Act.put, qA, qB, qC, i64_w, i32_w]
        rfl
       refine pure_ (i := 5) (N := some 39) (v := ?_) (a' := ?_) bA49 rfl rfl (any_of HT_.out (by kernel_rfl)) (fun _ _ _ h => h) (Or.inl ⟨by rfl, ?_⟩) ?_ ?_
       rotate_left
       ·intro w'
        go_simp
        with_reducible rfl
       rotate_left
       ·simp only [Act.put, qA, qB, qC, i64_w, i32_w]
        rfl
       refine take_ (i := 6) (N := some 40) (v := ?_) (a' := ?_) bA57 rfl rfl (take_ofW HT_.out HW_.out (by kernel_rfl)) (fun _ _ _ h => h) (Or.inl ⟨by rfl, ?_⟩) hHeld ?_ ?_
       rotate_left
       ·intro w' s0
        go_simp
        with_reducible rfl
       rotate_left
       ·simp only [Act.put, qA, qB, qC, i64_w, i32_w]
        rfl
       refine one_ (i := 7) (N := some 41) bA124 rfl rfl (one_of HT_.out (by kernel_rfl)) (by decide) (fun K hK => ?_)
       refine goes_ Try.func76 (by kernel_rfl) rfl #[.slice (some ad470) (l0_0.take (x4_2 : Int).toNat).length c0_0, .int .i64 (rd l0_0 x4_2)] (by rfl) rfl rfl (by (try simp only [List.map_toArray, List.map_cons, List.map_nil]); first | done | (rw [show (l0_0.take (x4_2 : Int).toNat).length = x4_2.toNat from (by rw [List.length_take]; have h_ : (x4_2 : Int) ≤ (l0_0.length : Int) := of_decide_eq_true (by assumption); omega)] <;> rfl) | rfl | (simp only [List.length_drop, List.length_take]; rfl)) ?_
       with_reducible refine (impl_Generates.calls k2 _ _ (l0_0.take (x4_2 : Int).toNat) (rd l0_0 x4_2) t471 _ ?side1 ?side2 A24.out).mono ?_
       (case side1 => exact zC (Kd.C_below HR469.out HB.out))
       (case side2 => exact HC469.out)
       rintro e w28 ⟨rfl, hb⟩
       refine ⟨_, rfl, ?_⟩
       have n0_ := Aside0.mk (blk_below (g := gb464) (o := .cells #[.slice (some ad470) l0_0.length c0_0] 40 (0, 0)) (zk BK464.out) hb)
       have n1_ := Aside0.mk (below_step (by repeat (first | (with_reducible first | exact HB.out | apply below_alloc | apply pw_below_drewN | apply below_drew1 | refine below_set ?_ GE464.out) | exact HB.out)) hb)
       clear BK464
       clear HB
       have BK464 := n0_
       have HB := n1_
       clear n0_ n1_
       (try clear hb)
       (try clear hb2)
       (try clear hk)
       (try clear hi)
       refine hK.out _ _ (((HB.out.cell (World.block_lt_of_cell? w _ hw470_0)).trans hw470_0)) (fun hHeld => ?_)
       clear hK K
       refine norm_ (a' := ?_) ?_ ?_
       rotate_left
       ·show Act.put _ (some 41) _ = _
        simp only [Act.put, qA, qB, qC, i64_w, i32_w]
        rfl
       refine done_ (done_of HT_.out (by kernel_rfl)) ?_
       go_upto_if 41 with (fail)
       have H := HU25.out
       clear HU25
       by_cases c29 : t471 = true
       ·subst c29
        rw [zT] at H
        obtain rfl := Option.some.inj H
        go_wp2
        go_ret
        exact ⟨by first | rfl | (simp [errW_none, errW_some] <;> rfl) | (simp [*, errW_none, errW_some] <;> rfl), by repeat (first | (with_reducible first | exact HB.out | apply below_alloc | apply pw_below_drewN | apply below_drew1 | refine below_set ?_ GE464.out) | exact HB.out)⟩
       ·replace c29 := Bool.eq_false_iff.mpr c29
        subst c29
        rw [zF] at H
        have H' := Aside0.mk H
        clear H
        go_wp2
        go_roundg k2
        case measure => have := HJ1.out; have := HK2.out; omega
        case rel => exact ⟨(wrap64 (x4_2 + 1)), (by first | rfl | (simp; done) | (simp [*]; done)), H', ⟨by have := HJ1.out; have := HK2.out; omega⟩, ⟨zk BK464.out⟩, ⟨by repeat (first | (with_reducible first | exact HB.out | apply below_alloc | apply pw_below_drewN | apply below_drew1 | refine below_set ?_ GE464.out) | exact HB.out)⟩⟩
      ·rw [if_neg c21] at H
       have c21b0 : decide (x4_2 < (l0_0.length : Int)) = false := decide_eq_false c21
       clear c21
       by_cases c30 : 0 < (l0_0.length : Int)
       ·rw [if_pos c30] at H
        have c30b0 : decide (0 < (l0_0.length : Int)) = true := decide_eq_true c30
        have c30b1 : decide (0 < l0_0.length) = true := decide_eq_true (by omega)
        clear c30
        obtain ⟨t473, A31, H⟩ := zb H
        have H' := Aside0.mk H
        clear H
        have p472 : 0 ≤ (0 : Int) := (by omega)
        have q472 : 0 < (l0_0.length : Int) := of_decide_eq_true (by assumption)
        obtain ⟨ad472, e472, hx472_0⟩ := Kd.at_int HR0_0.out 0 p472 q472
        cases e472
        have qi472 : (0 < l0_0.length) = True := eq_true (by omega)
        (try rw [show ((0 : Int)).toNat = 0 from rfl] at hx472_0)
        (try rw [Addr.add_zero'] at hx472_0)
        (try replace hx472_0 := (HB.out.cell (World.block_lt_of_cell? w _ hx472_0)).trans hx472_0)
        replace p472 := eq_true p472
        replace q472 := eq_true q472
        go_wp2_with (first | ((with_reducible refine gate_callee (f := 129) rfl ?_); refine goesL_ (some 46) rfl rfl Try.func129 (by kernel_rfl) rfl #[.slice (some ad472) l0_0.length c0_0, .int .i64 (rd l0_0 0)] rfl (by (try simp only [za, zc, zn]); first | done | rfl | (simp only [List.length_drop, List.length_take]; rfl)) ?_; (with_reducible refine (impl_leasts.calls k2 _ _ l0_0 (rd l0_0 0) t473 _ ?side1 ?side2 A31.out).mono ?_); (case side1 => exact zC (Kd.C_below HR0_0.out HB.out)); (case side2 => exact HC0_0.out); rintro e w32 ⟨v474, rfl, ho0, hb⟩; refine ⟨_, rfl, ?_⟩; have n0_ := Aside0.mk (Kd.R_lower ho0 (below_size (by repeat (first | (with_reducible first | exact HB.out | apply below_alloc | apply pw_below_drewN | apply below_drew1 | refine below_set ?_ GE464.out) | exact HB.out)))); have n1_ := Aside0.mk (blk_below (g := gb464) (o := .cells #[.slice (some ad472) l0_0.length c0_0] 40 (0, 0)) (zk BK464.out) hb); have n2_ := Aside0.mk (below_step (by repeat (first | (with_reducible first | exact HB.out | apply below_alloc | apply pw_below_drewN | apply below_drew1 | refine below_set ?_ GE464.out) | exact HB.out)) hb); clear BK464; clear HB; have HO475 := n0_; have BK464 := n1_; have HB := n2_; clear n0_ n1_ n2_; (try clear hb); (try clear hb2); (try clear hk); (try clear hi); (try clear ho0); obtain ⟨Ao33, co33, eo33⟩ := Kd.R_slice HO475.out; subst eo33))
        go_loopg [48] k2 (fun kq v48 w' => ∃ (x48_3 : Int), v48 = .int .i64 x48_3 ∧ Aside0 (impl_IsSemigroup.l1 kq l0_0 t473 (t473.length : Int) x48_3 = some r) ∧ Aside0 (kq ≤ k2) ∧ Aside0 (Kd.R (Kd.int .i64) 3 w' w.heap.size (fun _ => True) (.slice Ao33 t473.length co33) t473) ∧ Aside0 (w'.heap[gb464]? = some (.cells #[(.slice (some ad472) l0_0.length c0_0)] 40 (0, 0))) ∧ Aside0 (Below w.heap.size w w'))
        case atStart => exact ⟨(0), (by first | rfl | (simp; done) | (simp [*]; done)), H', ⟨Nat.le_refl _⟩, ⟨zR HO475.out⟩, ⟨zk BK464.out⟩, ⟨by repeat (first | (with_reducible first | exact HB.out | apply below_alloc | apply pw_below_drewN | apply below_drew1 | refine below_set ?_ GE464.out) | exact HB.out)⟩⟩
        case round =>
         clear H'
         try clear c1
         try clear c2
         try clear p2
         try clear c3
         try clear p4
         try clear q4
         try clear hx4
         try clear qi4
         try clear c6
         try clear p6
         try clear c7
         try clear c8
         try clear c10
         try clear c11
         try clear c12
         try clear c20
         try clear c21
         try clear c21b0
         try clear c22
         try clear c22b0
         try clear c22b1
         try clear c23
         try clear c23b0
         try clear c23b1
         try clear c29
         try clear c30
         try clear c30b0
         try clear c30b1
         try clear hcz4_0
         try clear hfz4_0
         try clear hx470_0
         try clear hx472_0
         try clear p2
         try clear p470
         try clear p472
         try clear q470
         try clear q472
         obtain ⟨x48_3, rfl, HA, HK3, HO_46, BK464, HB⟩ := hrel
         cases gk with
         | zero => exact absurd HA.out (by simp [impl_IsSemigroup.l1])
         | succ k3 =>
          have H := HA.out
          clear HA
          simp only [impl_IsSemigroup.l1] at H
          by_cases c34 : x48_3 < (t473.length : Int)
          ·rw [if_pos c34] at H
           have c34b0 : decide (x48_3 < (t473.length : Int)) = true := decide_eq_true c34
           clear c34
           obtain ⟨c35, H⟩ := zi H
           have c35b0 : decide (0 ≤ x48_3) = true := decide_eq_true c35
           clear c35
           obtain ⟨c36, H⟩ := zi H
           have c36b0 : decide (x48_3 < (t473.length : Int)) = true := decide_eq_true c36
           clear c36
           obtain ⟨c37, H⟩ := zi H
           have c37b0 : decide (0 < (l0_0.length : Int)) = true := decide_eq_true c37
           have c37b1 : decide (0 < l0_0.length) = true := decide_eq_true (by omega)
           clear c37
           by_cases c38 : (wrap64 ((rd t473 x48_3) - (rd l0_0 0))) ≥ 200
           ·rw [if_pos c38] at H
            have c38b0 : decide (200 ≤ (wrap64 ((rd t473 x48_3) - (rd l0_0 0)))) = true := decide_eq_true c38
            clear c38
            obtain rfl := Option.some.inj H
            have p476 : 0 ≤ (x48_3 : Int) := of_decide_eq_true (by assumption)
            have q476 : x48_3 < (t473.length : Int) := of_decide_eq_true (by assumption)
            obtain ⟨ad476, e476, hx476_0⟩ := Kd.at_int (Kd.R_reads' HO_46.out).2.2 x48_3 p476 q476
            cases e476
            replace p476 := eq_true p476
            replace q476 := eq_true q476
            have p477 : 0 ≤ (0 : Int) := (by omega)
            have q477 : 0 < (l0_0.length : Int) := of_decide_eq_true (by assumption)
            obtain ⟨ad477, e477, hx477_0⟩ := Kd.at_int HR0_0.out 0 p477 q477
            obtain rfl : ad472 = ad477 := (by injection e477)
            have qi477 : (0 < l0_0.length) = True := eq_true (by omega)
            (try rw [show ((0 : Int)).toNat = 0 from rfl] at hx477_0)
            (try rw [Addr.add_zero'] at hx477_0)
            (try replace hx477_0 := (HB.out.cell (World.block_lt_of_cell? w _ hx477_0)).trans hx477_0)
            replace p477 := eq_true p477
            replace q477 := eq_true q477
            go_wp2
            go_ret
            exact ⟨by first | rfl | (simp [errW_none, errW_some] <;> rfl) | (simp [*, errW_none, errW_some] <;> rfl), by repeat (first | (with_reducible first | exact HB.out | apply below_alloc | apply pw_below_drewN | apply below_drew1 | refine below_set ?_ GE464.out) | exact HB.out)⟩
           ·rw [if_neg c38] at H
            have c38b0 : decide (200 ≤ (wrap64 ((rd t473 x48_3) - (rd l0_0 0)))) = false := decide_eq_false c38
            clear c38
            have H' := Aside0.mk H
            clear H
            have p476 : 0 ≤ (x48_3 : Int) := of_decide_eq_true (by assumption)
            have q476 : x48_3 < (t473.length : Int) := of_decide_eq_true (by assumption)
            obtain ⟨ad476, e476, hx476_0⟩ := Kd.at_int (Kd.R_reads' HO_46.out).2.2 x48_3 p476 q476
            cases e476
            replace p476 := eq_true p476
            replace q476 := eq_true q476
            have p477 : 0 ≤ (0 : Int) := (by omega)
            have q477 : 0 < (l0_0.length : Int) := of_decide_eq_true (by assumption)
            obtain ⟨ad477, e477, hx477_0⟩ := Kd.at_int HR0_0.out 0 p477 q477
            obtain rfl : ad472 = ad477 := (by injection e477)
            have qi477 : (0 < l0_0.length) = True := eq_true (by omega)
            (try rw [show ((0 : Int)).toNat = 0 from rfl] at hx477_0)
            (try rw [Addr.add_zero'] at hx477_0)
            (try replace hx477_0 := (HB.out.cell (World.block_lt_of_cell? w _ hx477_0)).trans hx477_0)
            replace p477 := eq_true p477
            replace q477 := eq_true q477
            go_wp2
            go_roundg k3
            case measure => have := HJ1.out; have := HK2.out; have := HK3.out; omega
            case rel => exact ⟨(wrap64 (x48_3 + 1)), (by first | rfl | (simp; done) | (simp [*]; done)), H', ⟨by have := HJ1.out; have := HK2.out; have := HK3.out; omega⟩, ⟨zR HO_46.out⟩, ⟨zk BK464.out⟩, ⟨by repeat (first | (with_reducible first | exact HB.out | apply below_alloc | apply pw_below_drewN | apply below_drew1 | refine below_set ?_ GE464.out) | exact HB.out)⟩⟩
          ·rw [if_neg c34] at H
           have c34b0 : decide (x48_3 < (t473.length : Int)) = false := decide_eq_false c34
           clear c34
           obtain rfl := Option.some.inj H
           go_wp2
           go_ret
           exact ⟨by first | rfl | (simp [errW_none, errW_some] <;> rfl) | (simp [*, errW_none, errW_some] <;> rfl), by repeat (first | (with_reducible first | exact HB.out | apply below_alloc | apply pw_below_drewN | apply below_drew1 | refine below_set ?_ GE464.out) | exact HB.out)⟩
       ·rw [if_neg c30] at H
        exact absurd H (by simp)

/-! ### impl_table: function 117 -/
def impl_table.l0 : Nat → List Int → List Bool → Int → Int → List Int → Option (List Bool)
 | 0, _, _, _, _, _ => none
 | k + 1, x5, x6, x19, x20, x479000 => if x20 < x19 then (if 0 < (x479000.length : Int) then (if (rd x479000 0) = 0 then (none) else (if 0 ≤ (Int.tmod x20 (rd x479000 0)) then (if (Int.tmod x20 (rd x479000 0)) < (x5.length : Int) then (if 0 ≤ x20 then (if x20 < (x6.length : Int) then (impl_table.l0 k x5 (x6.set (x20 : Int).toNat (decide ((rd x5 (Int.tmod x20 (rd x479000 0))) ≤ x20))) x19 (wrap64 (x20 + 1)) x479000) else (none)) else (none)) else (none)) else (none))) else (none)) else (some x6)
def impl_table.f (k : Nat) (l0_0 : List Int) (a1 : Int) : Option (List Bool) := if 0 < (l0_0.length : Int) then ((impl_leasts.f k l0_0 (rd l0_0 0)).bind fun t480 => (if 0 ≤ (wrap64 (a1 + 1)) then (if (wrap64 (a1 + 1) : Int).toNat ≤ 281474976710656 then ((some (List.replicate (wrap64 (a1 + 1) : Int).toNat false : List Bool)).bind fun y483 => (impl_table.l0 k t480 y483 (y483.length : Int) 0 l0_0)) else (none)) else (none))) else (none)
theorem impl_table.mono_l : ∀ k, (∀ y0 y1 y2 y3 y4, LeO (impl_table.l0 k y0 y1 y2 y3 y4) (impl_table.l0 (k + 1) y0 y1 y2 y3 y4))
 | 0 => fun _ _ _ _ _ r h => by simp [impl_table.l0] at h
 | k + 1 => by
  have ih0 := impl_table.mono_l k
  ·intro y0 y1 y2 y3 y4
   unfold impl_table.l0
   repeat' first
   | (with_reducible first | exact ih0 _ _ _ _ _ | exact impl_leasts.mono _ _ _ | exact LeO.refl _ | exact LeO.none _ | refine LeO.ite ?_ ?_ | refine LeO.bind ?_ (fun _ => ?_))
   | exact LeO.none _
   | refine LeO.ite ?_ ?_
   | refine LeO.bind ?_ (fun _ => ?_)
theorem impl_table.mono : ∀ a0 a1 k, LeO (impl_table.f k a0 a1) (impl_table.f (k + 1) a0 a1) := by
 intro a0 a1 k
 have ih0 := impl_table.mono_l k
 unfold impl_table.f
 repeat' first
   | (with_reducible first | exact ih0 _ _ _ _ _ | exact impl_leasts.mono _ _ _ | exact LeO.refl _ | exact LeO.none _ | refine LeO.ite ?_ ?_ | refine LeO.bind ?_ (fun _ => ?_))
   | exact LeO.none _
   | refine LeO.ite ?_ ?_
   | refine LeO.bind ?_ (fun _ => ?_)
def impl_table.T1 : Bool × List (List Nat × List Nat) := (true, [([], []), ([0], [0]), ([], []), ([2], [2]), ([3], [3]), ([4], [4]), ([1, 5], [1, 5]), ([6, 6, 0, 1, 2, 3, 4, 5, 6], [6])])
def impl_table.B1 : List Nat := [0, 1, 0, 4, 12, 28, 63, 127]
theorem impl_table.tab1 : rtab .any (opsOf Try.f117 1) = impl_table.T1 := by kernel_rfl
theorem impl_table.bits1 : waitsOk impl_table.T1.2 impl_table.B1 = true := by kernel_rfl
set_option maxHeartbeats 8000000 in
set_option maxRecDepth 100000 in
theorem impl_table.calls (k : Nat) (A0_0 : Option Addr) (c0_0 : Nat) (l0_0 : List Int) (a1 : Int) (r : List Bool) (w : World) (hr0_0 : Kd.C (Kd.int .i64) w A0_0 l0_0.length l0_0) (hc0_0 : l0_0.length ≤ c0_0) (h : impl_table.f k l0_0 a1 = some r) :
  Calls Try.prog 117 #[.agg #[.slice A0_0 l0_0.length c0_0], .int .i64 a1] w fun e w' => ∃ v0_ : Value, e = .returned (v0_) ∧ Kd.R Kd.bool 4 w' w.heap.size (fun _ => True) v0_ r ∧ Below w.heap.size w w' := by
 have hu40 := Try.underlying40
 have HR0_0 := Aside0.mk hr0_0
 have HC0_0 := Aside0.mk hc0_0
 clear hr0_0 hc0_0
 have HB := Aside0.mk (Below.refl w.heap.size w)
 have H : (if 0 < (l0_0.length : Int) then ((impl_leasts.f k l0_0 (rd l0_0 0)).bind fun t480 => (if 0 ≤ (wrap64 (a1 + 1)) then (if (wrap64 (a1 + 1) : Int).toNat ≤ 281474976710656 then ((some (List.replicate (wrap64 (a1 + 1) : Int).toNat false : List Bool)).bind fun y483 => (impl_table.l0 k t480 y483 (y483.length : Int) 0 l0_0)) else (none)) else (none))) else (none)) = some r := h
 clear h
 by_cases c3 : 0 < (l0_0.length : Int)
 ·rw [if_pos c3] at H
  have c3b0 : decide (0 < (l0_0.length : Int)) = true := decide_eq_true c3
  have c3b1 : decide (0 < l0_0.length) = true := decide_eq_true (by omega)
  clear c3
  obtain ⟨t480, A4, H⟩ := zb H
  obtain ⟨ji5, hji5⟩ : ∃ j_ : Int, (wrap64 (a1 + 1)) = j_ := ⟨_, rfl⟩
  replace H : (if 0 ≤ (ji5) then (if (ji5 : Int).toNat ≤ 281474976710656 then ((some (List.replicate (ji5 : Int).toNat false : List Bool)).bind fun y483 => (impl_table.l0 k t480 y483 (y483.length : Int) 0 l0_0)) else (none)) else (none)) = some r := by first | (rw [hji5] at H; exact H) | (simp only [hji5] at H ⊢; exact H)
  (try rw [hji5] at A4)
  have hji5w : (IntKind.i64.wrap (a1 + 1)) = ji5 := (i64_w _).trans hji5
  obtain ⟨c6, H⟩ := zi H
  have c6b0 := eq_true c6
  have c6b1 : decide (0 ≤ (ji5)) = true := decide_eq_true c6
  clear c6
  obtain ⟨c7, H⟩ := zi H
  have c7b0 := eq_true c7
  have c7b1 : decide ((ji5 : Int).toNat ≤ 281474976710656) = true := decide_eq_true c7
  clear c7
  obtain ⟨y483, Ny483⟩ : ∃ y_ : List Bool, Aside0 (y_ = (List.replicate (ji5 : Int).toNat false)) := ⟨_, ⟨rfl⟩⟩
  (try rw [Option.bind_some] at H)
  (try rw [← Ny483.out] at H)
  have H' := Aside0.mk H
  clear H
  go_enter Try.func117, Try.ntmps117
  try go_wp2_with (first | ((with_reducible refine gate_dst (N := 2) rfl ?_); refine box_event ?hg (N := 2) ?hd (cs := #[.slice A0_0 l0_0.length c0_0]) (t := 40) ?hr ?_; (case hd => rfl); (case hg => rfl); (case hr => first | (go_simp; done) | (go_simp; rfl)); intro gb478 hg w8 hbox hb; have n0_ := Aside0.mk (below_step (zB HB.out) hb); have n1_ := Aside0.mk (hbox); have n2_ := Aside0.mk ((by rw [hg]; exact (zS HB.out) : w.heap.size ≤ gb478)); have n3_ := Aside0.mk ((by rw [hg]; exact (zS HB.out) : w.heap.size ≤ gb478)); clear HB; have HB := n0_; have BK478 := n1_; have GW478 := n2_; have GE478 := n3_; clear n0_ n1_ n2_ n3_; clear hb hbox hg))
  have n0_ := Aside0.mk (blk_drew BK478.out)
  have n1_ := Aside0.mk (below_drew1 HB.out)
  clear BK478
  clear HB
  have BK478 := n0_
  have HB := n1_
  clear n0_ n1_
  have p479 : 0 ≤ (0 : Int) := (by omega)
  have q479 : 0 < (l0_0.length : Int) := of_decide_eq_true (by assumption)
  obtain ⟨ad479, e479, hx479_0⟩ := Kd.at_int HR0_0.out 0 p479 q479
  have hw479_0 := hx479_0
  (try rw [show ((0 : Int)).toNat = 0 from rfl] at hw479_0)
  (try rw [show 0 * 1 = 0 from rfl] at hw479_0)
  (try rw [Addr.add_zero'] at hw479_0)
  cases e479
  have qi479 : (0 < l0_0.length) = True := eq_true (by omega)
  (try rw [show ((0 : Int)).toNat = 0 from rfl] at hx479_0)
  (try rw [Addr.add_zero'] at hx479_0)
  (try replace hx479_0 := (HB.out.cell (World.block_lt_of_cell? w _ hx479_0)).trans hx479_0)
  replace p479 := eq_true p479
  replace q479 := eq_true q479
  refine start_ (n := 8) (S := fun w' => w'.cell? ⟨gb478, 0, none⟩ = some (.slice (some ad479) l0_0.length c0_0) ∧ w'.cell? ad479 = some (.int .i64 (rd l0_0 0))) (ds := []) bA6 (by kernel_rfl) rfl rfl ⟨(blk_cell BK478.out 0).trans rfl, ((HB.out.cell (World.block_lt_of_cell? w _ hw479_0)).trans hw479_0)⟩ (fun hHeld => ?_); refine with_tabW impl_table.tab1 impl_table.bits1 (fun HT_ HW_ => ?_)
  generalize w8.drew = w9 at BK478 HB hx479_0 hHeld ⊢
  refine pure_ (i := 0) (N := some 8) (v := ?_) (a' := ?_) bA13 rfl rfl (any_of HT_.out (by kernel_rfl)) (fun _ _ _ h => h) (Or.inl ⟨by rfl, ?_⟩) ?_ ?_
  rotate_left
  ·intro w'
   go_simp
   with_reducible rfl
  rotate_left
  ·simp only [Act.put, qA, qB, qC, i64_w, i32_w]
   rfl
  refine pure_ (i := 2) (N := some 10) (v := ?_) (a' := ?_) #[true, false, true, false, false, false, false, false] rfl rfl (any_of HT_.out (by kernel_rfl)) (fun _ _ _ h => h) (Or.inl ⟨by rfl, ?_⟩) ?_ ?_
  rotate_left
  ·intro w'
   go_simp
   with_reducible rfl
  rotate_left
  ·simp only [Act.put, qA, qB, qC, i64_w, i32_w]
   rfl
  refine take_ (i := 1) (N := some 9) (v := ?_) (a' := ?_) bA26 rfl rfl (take_ofW HT_.out HW_.out (by kernel_rfl)) (fun _ _ _ h => h) (Or.inl ⟨by rfl, ?_⟩) hHeld ?_ ?_
  rotate_left
  ·rintro w' ⟨s0, s1⟩
   go_simp
   with_reducible rfl
  rotate_left
  ·simp only [Act.put, qA, qB, qC, i64_w, i32_w]
   rfl
  refine take_ (i := 3) (N := some 11) (v := ?_) (a' := ?_) bA35 rfl rfl (take_ofW HT_.out HW_.out (by kernel_rfl)) (fun _ _ _ h => h) (Or.inl ⟨by rfl, ?_⟩) hHeld ?_ ?_
  rotate_left
  ·rintro w' ⟨s0, s1⟩
   go_simp
   with_reducible rfl
  rotate_left
  ·simp only [Act.put, qA, qB, qC, i64_w, i32_w]
   rfl
  refine pure_ (i := 4) (N := some 12) (v := ?_) (a' := ?_) bA43 rfl rfl (any_of HT_.out (by kernel_rfl)) (fun _ _ _ h => h) (Or.inl ⟨by rfl, ?_⟩) ?_ ?_
  rotate_left
  ·intro w'
   go_simp
   with_reducible rfl
  rotate_left
  ·simp only [Act.put, qA, qB, qC, i64_w, i32_w]
   rfl
  refine take_ (i := 5) (N := some 13) (v := ?_) (a' := ?_) bA49 rfl rfl (take_ofW HT_.out HW_.out (by kernel_rfl)) (fun _ _ _ h => h) (Or.inl ⟨by rfl, ?_⟩) hHeld ?_ ?_
  rotate_left
  ·rintro w' ⟨s0, s1⟩
   go_simp
   with_reducible rfl
  rotate_left
  ·simp only [Act.put, qA, qB, qC, i64_w, i32_w]
   rfl
  refine one_ (i := 6) (N := some 14) bA57 rfl rfl (one_of HT_.out (by kernel_rfl)) (by decide) (fun K hK => ?_)
  refine goes_ Try.func129 (by kernel_rfl) rfl #[.slice (some ad479) l0_0.length c0_0, .int .i64 (rd l0_0 0)] (by rfl) rfl rfl (by (try simp only [za, zc, zn]); first | done | rfl) ?_
  with_reducible refine (impl_leasts.calls k _ _ l0_0 (rd l0_0 0) t480 _ ?side1 ?side2 A4.out).mono ?_
  (case side1 => exact zC (Kd.C_below HR0_0.out HB.out))
  (case side2 => exact HC0_0.out)
  rintro e w10 ⟨v481, rfl, ho0, hb⟩
  refine ⟨_, rfl, ?_⟩
  have n0_ := Aside0.mk (Kd.R_lower ho0 (zS HB.out))
  have n1_ := Aside0.mk (blk_below (g := gb478) (o := .cells #[.slice (some ad479) l0_0.length c0_0] 40 (0, 0)) (zk BK478.out) hb)
  have n2_ := Aside0.mk (below_step (zB HB.out) hb)
  clear BK478
  clear HB
  have HO482 := n0_
  have BK478 := n1_
  have HB := n2_
  clear n0_ n1_ n2_
  (try clear hb)
  (try clear hb2)
  (try clear hk)
  (try clear hi)
  (try clear ho0)
  refine hK.out _ _ ⟨(blk_cell BK478.out 0).trans rfl, ((HB.out.cell (World.block_lt_of_cell? w _ hw479_0)).trans hw479_0)⟩ (fun hHeld => ?_)
  clear hK K
  refine norm_ (a' := ?_) ?_ ?_
  rotate_left
  ·show Act.put _ (some 14) _ = _
   simp only [Act.put, qA, qB, qC, i64_w, i32_w]
   rfl
  refine pure_ (i := 7) (N := some 5) (v := ?_) (a' := ?_) bA124 rfl rfl (any_of HT_.out (by kernel_rfl)) (fun _ _ _ h => h) (Or.inl ⟨by rfl, ?_⟩) ?_ ?_
  rotate_left
  ·intro w'
   go_simp
   with_reducible rfl
  rotate_left
  ·simp only [Act.put, qA, qB, qC, i64_w, i32_w]
   rfl
  refine done_ (done_of HT_.out (by kernel_rfl)) ?_
  try go_wp2_with (first | ((with_reducible refine gate_dst (N := 17) rfl ?_); refine Kd.R_make Kd.bool _ 4 rfl (N := 17) rfl 71 _ _ rfl ji5 rfl rfl Try.underlying71 (.bool false) 1 info4 rfl (by decide) (by omega) false (ok := fun _ => True) (okp := fun _ => True) rfl (fun _ hk => hk) trivial (of_decide_eq_true (by assumption)) (Nat.le_trans (Nat.mul_le_mul_right _ (of_decide_eq_true (by assumption) : ji5.toNat ≤ 281474976710656)) (by omega)) (Below.refl _ _) (Nat.le_refl _) ?_; intro v484 w11 ho12 hb hg_ hnew_; clear hg_ hnew_; (first | rw [← Ny483.out] at ho12 | (simp only [Int.reduceToNat] at ho12; rw [← Ny483.out] at ho12)); have n0_ := Aside0.mk (Kd.R_below (zR HO482.out) hb); have n1_ := Aside0.mk (Kd.R_lower ho12 (zS HB.out)); have n2_ := Aside0.mk (blk_below (g := gb478) (o := .cells #[.slice (some ad479) l0_0.length c0_0] 40 (0, 0)) (zk BK478.out) hb); have n3_ := Aside0.mk (below_step (zB HB.out) hb); clear HO482; clear BK478; clear HB; have HO482 := n0_; have HO485 := n1_; have BK478 := n2_; have HB := n3_; clear n0_ n1_ n2_ n3_; clear hb ho12; obtain ⟨Ao13, co13, eo13⟩ := Kd.R_slice HO485.out; subst eo13))
  go_loopg [20] k (fun kq v20 w' => ∃ (x6_1 : List Bool) (x20_1 : Int), v20 = .int .i64 x20_1 ∧ Aside0 (impl_table.l0 kq t480 x6_1 (y483.length : Int) x20_1 l0_0 = some r) ∧ Aside0 (kq ≤ k) ∧ Aside0 (Kd.R (Kd.int .i64) 3 w' w.heap.size (fun _ => True) v481 t480) ∧ Aside0 (Kd.R Kd.bool 4 w' w.heap.size (fun _ => True) (.slice Ao13 y483.length co13) x6_1) ∧ Aside0 (w'.heap[gb478]? = some (.cells #[(.slice (some ad479) l0_0.length c0_0)] 40 (0, 0))) ∧ Aside0 (Below w.heap.size w w'))
  case atStart => exact ⟨(y483), (0), (by first | rfl | (simp; done) | (simp [*]; done)), H', ⟨Nat.le_refl _⟩, ⟨zR HO482.out⟩, ⟨zR HO485.out⟩, ⟨zk BK478.out⟩, ⟨zB HB.out⟩⟩
  case round =>
   clear H'
   try clear c1
   try clear p2
   try clear c3
   try clear c3b0
   try clear c3b1
   try clear p4
   try clear q4
   try clear hx4
   try clear qi4
   try clear c6
   try clear c6b0
   try clear c6b1
   try clear p6
   try clear c7
   try clear c7b0
   try clear c7b1
   try clear c11
   try clear c12
   try clear hx479_0
   try clear p479
   try clear q479
   obtain ⟨x6_1, x20_1, rfl, HA, HK1, HO_5, HO_6, BK478, HB⟩ := hrel
   have hl6_1 := (Kd.R_reads' HO_6.out).1
   rw [hl6_1] at HO_6
   (try simp only [hl6_1])
   (try simp only [hl6_1] at BK478)
   (try simp only [hl6_1] at HO_5)
   cases gk with
   | zero => exact absurd HA.out (by simp [impl_table.l0])
   | succ k1 =>
    have H := HA.out
    clear HA
    simp only [impl_table.l0] at H
    by_cases c14 : x20_1 < (y483.length : Int)
    ·rw [if_pos c14] at H
     have c14b0 : decide (x20_1 < (y483.length : Int)) = true := decide_eq_true c14
     clear c14
     have c14b0h := c14b0
     (try simp only [hl6_1] at c14b0h)
     obtain ⟨c15, H⟩ := zi H
     have c15b0 : decide (0 < (l0_0.length : Int)) = true := decide_eq_true c15
     have c15b1 : decide (0 < l0_0.length) = true := decide_eq_true (by omega)
     clear c15
     by_cases c16 : (rd l0_0 0) = 0
     ·rw [if_pos c16] at H
      exact absurd H (by simp)
     ·rw [if_neg c16] at H
      have c16b0 : ((rd l0_0 0) == 0) = false := beq_eq_false_iff_ne.mpr c16
      have c16b1 : ((rd l0_0 0) != 0) = true := bne_iff_ne.mpr c16
      obtain ⟨ji17, hji17⟩ : ∃ j_ : Int, (Int.tmod x20_1 (rd l0_0 0)) = j_ := ⟨_, rfl⟩
      replace H : (if 0 ≤ (ji17) then (if (ji17) < (t480.length : Int) then (if 0 ≤ x20_1 then (if x20_1 < (x6_1.length : Int) then (impl_table.l0 k1 t480 (x6_1.set (x20_1 : Int).toNat (decide ((rd t480 (ji17)) ≤ x20_1))) (y483.length : Int) (wrap64 (x20_1 + 1)) l0_0) else (none)) else (none)) else (none)) else (none)) = some r := by first | (rw [hji17] at H; exact H) | (simp only [hji17] at H ⊢; exact H)
      obtain ⟨c18, H⟩ := zi H
      have c18b0 : decide (0 ≤ (ji17)) = true := decide_eq_true c18
      clear c18
      obtain ⟨c19, H⟩ := zi H
      have c19b0 : decide ((ji17) < (t480.length : Int)) = true := decide_eq_true c19
      clear c19
      obtain ⟨c20, H⟩ := zi H
      have c20b0 : decide (0 ≤ x20_1) = true := decide_eq_true c20
      clear c20
      obtain ⟨c21, H⟩ := zi H
      have c21b0 : decide (x20_1 < (x6_1.length : Int)) = true := decide_eq_true c21
      clear c21
      obtain ⟨y488, Ny488⟩ : ∃ y_ : List Bool, Aside0 (y_ = (x6_1.set (x20_1 : Int).toNat (decide ((rd t480 (ji17)) ≤ x20_1)))) := ⟨_, ⟨rfl⟩⟩
      (try rw [Option.bind_some] at H)
      (try rw [← Ny488.out] at H)
      have H' := Aside0.mk H
      clear H
      have hcz23_0 : wr.cell? ⟨gb478, 0, none⟩ = some (.slice (some ad479) l0_0.length c0_0) := (blk_cell BK478.out 0).trans rfl
      have hfz23_0 := blk_frozen BK478.out 0
      have p486 : 0 ≤ (0 : Int) := (by omega)
      have q486 : 0 < (l0_0.length : Int) := of_decide_eq_true (by assumption)
      obtain ⟨ad486, e486, hx486_0⟩ := Kd.at_int HR0_0.out 0 p486 q486
      obtain rfl : ad479 = ad486 := (by injection e486)
      have qi486 : (0 < l0_0.length) = True := eq_true (by omega)
      (try rw [show ((0 : Int)).toNat = 0 from rfl] at hx486_0)
      (try rw [Addr.add_zero'] at hx486_0)
      (try replace hx486_0 := (HB.out.cell (World.block_lt_of_cell? w _ hx486_0)).trans hx486_0)
      replace p486 := eq_true p486
      replace q486 := eq_true q486
      obtain ⟨Ao24, co24, eo24⟩ := Kd.R_slice HO_5.out
      subst eo24
      have p487 : 0 ≤ ((ji17) : Int) := of_decide_eq_true (by assumption)
      have q487 : (ji17) < (t480.length : Int) := of_decide_eq_true (by assumption)
      obtain ⟨ad487, e487, hx487_0⟩ := Kd.at_int (Kd.R_reads' HO_5.out).2.2 (ji17) p487 q487
      cases e487
      replace p487 := eq_true p487
      replace q487 := eq_true q487
      have p22 : 0 ≤ (x20_1 : Int) := of_decide_eq_true (by assumption)
      have q22 : (x20_1 : Int) < ((x6_1.length : Int) : Int) := of_decide_eq_true (by assumption)
      obtain ⟨go22, co22, eo22, gb22, gl22, cl22, HG22⟩ := Kd.R_form HO_6.out (by omega)
      (first | cases eo22 | (injection eo22 with ea_ en_ ec_; (first | subst ea_ | (injection ea_ with ea_; subst ea_)); subst ec_; clear en_))
      have GB22 := Aside0.mk gb22
      have GG22 := Aside0.mk HG22
      clear gb22 gl22 HG22
      obtain ⟨hx22_0, hf22_0⟩ := Kd.R_celln false HO_6.out (x20_1 : Int) p22 q22
      replace p22 := eq_true p22
      replace q22 := eq_true q22
      have HP25 := Kd.R_putg HO_6.out (x20_1 : Int) (decide ((rd t480 (ji17)) ≤ x20_1))
      go_wp2_with (first | ((with_reducible refine gate_store (t := 4) (p := 36) rfl ?_); refine store_event (t := 4) (p := 36) (v := ?vo_w26) (w1 := (wr.setCell ⟨go22, (x20_1 : Int).toNat, none⟩ (.bool (decide ((rd t480 (ji17)) ≤ x20_1))))) ?hg ?ho ?hn ?hr ?_; (case ho => rfl); (case hg => rfl); (case hn => rfl); (case hr => first | (go_simp; done) | (go_simp; rfl)); intro w26 hw; have hg : wr.grownBy w26 (some go22) := (by rw [hw]; exact HP25.2); have hp_ : Kd.R Kd.bool 4 w26 w.heap.size (fun _ => True) (.slice (some ⟨go22, 0, none⟩) x6_1.length co13) y488 := (by rw [hw, Ny488.out]; exact HP25.1); clear HP25; have n0_ := Aside0.mk (Kd.R_over' (v := (.slice (some ⟨go22, 0, none⟩) x6_1.length co13)) (zR HO_5.out) (Kd.R_typed HO_6.out) (by decide) hg); have n1_ := Aside0.mk (hp_); have n2_ := Aside0.mk (blk_grown (g := gb478) (o := .cells #[.slice (some ad479) l0_0.length c0_0] 40 (0, 0)) (zk BK478.out) hg (Kd.R_ne HO_6.out BK478.out (by decide))); have n3_ := Aside0.mk ((by rw [hw]; exact below_set (HB.out) GB22.out : Below w.heap.size w w26)); clear HO_5; clear HO_6; clear BK478; clear HB; have HO_5 := n0_; have HO_6 := n1_; have BK478 := n2_; have HB := n3_; clear n0_ n1_ n2_ n3_; clear hg hw hp_))
      (try simp only [← hl6_1])
      go_roundg k1
      case measure => have := HK1.out; omega
      case rel => exact ⟨(y488), (wrap64 (x20_1 + 1)), (by first | rfl | (simp; done) | (simp [*]; done)), H', ⟨by have := HK1.out; omega⟩, ⟨by (try simp only [hl6_1]); (with_reducible repeat (first | apply Kd.R_alloc | apply Kd.R_drewN | apply Kd.R_drew)); exact HO_5.out⟩, ⟨by (try simp only [hl6_1]); (with_reducible repeat (first | apply Kd.R_alloc | apply Kd.R_drewN | apply Kd.R_drew)); exact HO_6.out⟩, ⟨by (try simp only [hl6_1]); (with_reducible repeat (first | refine blk_drewN ?_ _ | refine blk_drew ?_ | refine blk_alloc ?_ _)); exact BK478.out⟩, ⟨zB HB.out⟩⟩
    ·rw [if_neg c14] at H
     have c14b0 : decide (x20_1 < (y483.length : Int)) = false := decide_eq_false c14
     clear c14
     (try simp only [hl6_1] at c14b0)
     obtain rfl := Option.some.inj H
     go_wp2
     go_ret
     exact ⟨_, by first | rfl | (simp [errW_none, errW_some] <;> rfl) | (simp only [← hji5]; first | rfl | (simp [errW_none, errW_some] <;> rfl)) | (simp [*, errW_none, errW_some] <;> rfl), zR HO_6.out, zB HB.out⟩
 ·rw [if_neg c3] at H
  exact absurd H (by simp)

/-! ### impl_Gaps: function 37 -/
def impl_Gaps.l0 : Nat → List Int → List Bool → Int → Int → Option (List Int)
 | 0, _, _, _, _ => none
 | k + 1, x3, x11, x12, x13 => if x13 < x12 then (if 0 ≤ x13 then (if x13 < (x11.length : Int) then (if rdOf false x11 x13 = true then (impl_Gaps.l0 k x3 x11 x12 (wrap64 (x13 + 1))) else (if x3.length < 17592186044416 then (impl_Gaps.l0 k (x3 ++ [x13]) x11 x12 (wrap64 (x13 + 1))) else (none))) else (none)) else (none)) else (some x3)
def impl_Gaps.f (k : Nat) (l0_0 : List Int) : Option (List Int) := (impl_IsSemigroup.f k l0_0).bind fun t490 => (if t490 = true then ((impl_table.f k l0_0 200).bind fun t494 => (impl_Gaps.l0 k (([] : List Int)) t494 (t494.length : Int) 0)) else (some ([] : List Int)))
theorem impl_Gaps.mono_l : ∀ k, (∀ y0 y1 y2 y3, LeO (impl_Gaps.l0 k y0 y1 y2 y3) (impl_Gaps.l0 (k + 1) y0 y1 y2 y3))
 | 0 => fun _ _ _ _ r h => by simp [impl_Gaps.l0] at h
 | k + 1 => by
  have ih0 := impl_Gaps.mono_l k
  ·intro y0 y1 y2 y3
   unfold impl_Gaps.l0
   repeat' first
   | (with_reducible first | exact ih0 _ _ _ _ | exact impl_IsSemigroup.mono _ _ | exact impl_table.mono _ _ _ | exact LeO.refl _ | exact LeO.none _ | refine LeO.ite ?_ ?_ | refine LeO.bind ?_ (fun _ => ?_))
   | exact LeO.none _
   | refine LeO.ite ?_ ?_
   | refine LeO.bind ?_ (fun _ => ?_)
theorem impl_Gaps.mono : ∀ a0 k, LeO (impl_Gaps.f k a0) (impl_Gaps.f (k + 1) a0) := by
 intro a0 k
 have ih0 := impl_Gaps.mono_l k
 unfold impl_Gaps.f
 repeat' first
   | (with_reducible first | exact ih0 _ _ _ _ | exact impl_IsSemigroup.mono _ _ | exact impl_table.mono _ _ _ | exact LeO.refl _ | exact LeO.none _ | refine LeO.ite ?_ ?_ | refine LeO.bind ?_ (fun _ => ?_))
   | exact LeO.none _
   | refine LeO.ite ?_ ?_
   | refine LeO.bind ?_ (fun _ => ?_)
set_option maxHeartbeats 8000000 in
set_option maxRecDepth 100000 in
theorem impl_Gaps.calls (k : Nat) (A0_0 : Option Addr) (c0_0 : Nat) (l0_0 : List Int) (r : List Int) (w : World) (hr0_0 : Kd.C (Kd.int .i64) w A0_0 l0_0.length l0_0) (hc0_0 : l0_0.length ≤ c0_0) (h : impl_Gaps.f k l0_0 = some r) :
  Calls Try.prog 37 #[.agg #[.slice A0_0 l0_0.length c0_0]] w fun e w' => ∃ v0_ : Value, e = .returned (v0_) ∧ Kd.R (Kd.int .i64) 3 w' w.heap.size (fun _ => True) v0_ r ∧ Below w.heap.size w w' := by
 have hu40 := Try.underlying40
 have HR0_0 := Aside0.mk hr0_0
 have HC0_0 := Aside0.mk hc0_0
 clear hr0_0 hc0_0
 have HB := Aside0.mk (Below.refl w.heap.size w)
 have H : ((impl_IsSemigroup.f k l0_0).bind fun t490 => (if t490 = true then ((impl_table.f k l0_0 200).bind fun t494 => (impl_Gaps.l0 k (([] : List Int)) t494 (t494.length : Int) 0)) else (some ([] : List Int)))) = some r := h
 clear h
 obtain ⟨t490, A2, H⟩ := zb H
 have HU3 := Aside0.mk H
 clear H
 go_enter Try.func37, Try.ntmps37
 go_upto_if 8 with (first | ((with_reducible refine gate_dst (N := 1) rfl ?_); refine box_event ?hg (N := 1) ?hd (cs := #[.slice A0_0 l0_0.length c0_0]) (t := 40) ?hr ?_; (case hd => rfl); (case hg => rfl); (case hr => first | (go_simp; done) | (go_simp; rfl)); intro gb489 hg w4 hbox hb; have n0_ := Aside0.mk (below_step (zB HB.out) hb); have n1_ := Aside0.mk (hbox); have n2_ := Aside0.mk ((by rw [hg]; exact (zS HB.out) : w.heap.size ≤ gb489)); have n3_ := Aside0.mk ((by rw [hg]; exact (zS HB.out) : w.heap.size ≤ gb489)); clear HB; have HB := n0_; have BK489 := n1_; have GW489 := n2_; have GE489 := n3_; clear n0_ n1_ n2_ n3_; clear hb hbox hg; have hcz5_0 : w4.cell? ⟨gb489, 0, none⟩ = some (.slice A0_0 l0_0.length c0_0) := (blk_cell BK489.out 0).trans rfl; have hfz5_0 := blk_frozen BK489.out 0) | ((with_reducible refine gate_callee (f := 79) rfl ?_); refine goesL_ (some 7) rfl rfl Try.func79 (by kernel_rfl) rfl #[.agg #[.slice A0_0 l0_0.length c0_0]] rfl (by (try simp only [za, zc, zn]); first | done | rfl) ?_; (with_reducible refine (impl_IsSemigroup.calls k _ _ l0_0 t490 _ ?side1 ?side2 A2.out).mono ?_); (case side1 => exact zC (Kd.C_below HR0_0.out HB.out)); (case side2 => exact HC0_0.out); rintro e w6 ⟨rfl, hb⟩; refine ⟨_, rfl, ?_⟩; have n0_ := Aside0.mk (blk_below (g := gb489) (o := .cells #[.slice A0_0 l0_0.length c0_0] 40 (0, 0)) (zk BK489.out) hb); have n1_ := Aside0.mk (below_step (zB HB.out) hb); clear BK489; clear HB; have BK489 := n0_; have HB := n1_; clear n0_ n1_; (try clear hb); (try clear hb2); (try clear hk); (try clear hi)))
 (try simp only [Act.put, List.setIfInBounds_toArray, List.set_cons_zero, List.set_cons_succ])
 have H := HU3.out
 clear HU3
 by_cases c7 : t490 = true
 ·subst c7
  rw [zT] at H
  obtain ⟨y491, Ny491⟩ : ∃ y_ : List Int, Aside0 (y_ = (([] : List Int))) := ⟨_, ⟨rfl⟩⟩
  (try rw [Option.bind_some] at H)
  (try rw [← Ny491.out] at H)
  obtain ⟨t494, A8, H⟩ := zb H
  have H' := Aside0.mk H
  clear H
  go_wp2_with (first | ((with_reducible refine gate_dst (N := 9) rfl ?_); refine Kd.R_lit (Kd.int .i64) _ 3 ?hg (N := 9) ?hd (xs := ([] : List Int)) (inner := []) (ok := fun _ => True) (okp := fun _ => True) ?hr ?hp (fun _ hk => hk) trivial (Below.refl _ _) (Nat.le_refl _) (by simp) ?_; (case hd => rfl); (case hg => rfl); (case hr => first | (go_simp; done) | (go_simp; rfl)); (case hp => exact (Reps.none _ _)); intro v492 w9 ho10 hb hg_ hnew_; clear hg_ hnew_; (first | rw [← Ny491.out] at ho10 | (simp only [Int.reduceToNat] at ho10; rw [← Ny491.out] at ho10)); have n0_ := Aside0.mk (Kd.R_lower ho10 (zS HB.out)); have n1_ := Aside0.mk (blk_below (g := gb489) (o := .cells #[.slice A0_0 l0_0.length c0_0] 40 (0, 0)) (zk BK489.out) hb); have n2_ := Aside0.mk (below_step (zB HB.out) hb); clear BK489; clear HB; have HO493 := n0_; have BK489 := n1_; have HB := n2_; clear n0_ n1_ n2_; clear hb ho10; have hcz11_0 : w9.cell? ⟨gb489, 0, none⟩ = some (.slice A0_0 l0_0.length c0_0) := (blk_cell BK489.out 0).trans rfl; have hfz11_0 := blk_frozen BK489.out 0) | ((with_reducible refine gate_callee (f := 117) rfl ?_); refine goesL_ (some 11) rfl rfl Try.func117 (by kernel_rfl) rfl #[.agg #[.slice A0_0 l0_0.length c0_0], .int .i64 200] rfl (by (try simp only [za, zc, zn]); first | done | rfl) ?_; (with_reducible refine (impl_table.calls k _ _ l0_0 200 t494 _ ?side1 ?side2 A8.out).mono ?_); (case side1 => exact zC (Kd.C_below HR0_0.out HB.out)); (case side2 => exact HC0_0.out); rintro e w12 ⟨v495, rfl, ho0, hb⟩; refine ⟨_, rfl, ?_⟩; have n0_ := Aside0.mk (Kd.R_below (zR HO493.out) hb); have n1_ := Aside0.mk (Kd.R_lower ho0 (zS HB.out)); have n2_ := Aside0.mk (blk_below (g := gb489) (o := .cells #[.slice A0_0 l0_0.length c0_0] 40 (0, 0)) (zk BK489.out) hb); have n3_ := Aside0.mk (below_step (zB HB.out) hb); clear HO493; clear BK489; clear HB; have HO493 := n0_; have HO496 := n1_; have BK489 := n2_; have HB := n3_; clear n0_ n1_ n2_ n3_; (try clear hb); (try clear hb2); (try clear hk); (try clear hi); (try clear ho0); obtain ⟨Ao13, co13, eo13⟩ := Kd.R_slice HO496.out; subst eo13))
  go_loopg [3, 13] k (fun kq v3 v13 w' => ∃ (x3_1 : List Int) (x13_1 : Int), v13 = .int .i64 x13_1 ∧ Aside0 (impl_Gaps.l0 kq x3_1 t494 (t494.length : Int) x13_1 = some r) ∧ Aside0 (kq ≤ k) ∧ Aside0 (Kd.R (Kd.int .i64) 3 w' w.heap.size (fun _ => True) v3 x3_1) ∧ Aside0 (Kd.R Kd.bool 4 w' w.heap.size (fun _ => True) (.slice Ao13 t494.length co13) t494) ∧ Aside0 (w'.heap[gb489]? = some (.cells #[(.slice A0_0 l0_0.length c0_0)] 40 (0, 0))) ∧ Aside0 (Below w.heap.size w w'))
  case atStart => exact ⟨(y491), (0), (by first | rfl | (simp; done) | (simp [*]; done)), H', ⟨Nat.le_refl _⟩, ⟨zR HO493.out⟩, ⟨zR HO496.out⟩, ⟨zk BK489.out⟩, ⟨zB HB.out⟩⟩
  case round =>
   clear H'
   try clear c1
   try clear p2
   try clear c3
   try clear c7
   try clear c11
   try clear hcz11_0
   try clear hcz5_0
   try clear hfz11_0
   try clear hfz5_0
   obtain ⟨x3_1, x13_1, rfl, HA, HK1, HO_3, HO_11, BK489, HB⟩ := hrel
   cases gk with
   | zero => exact absurd HA.out (by simp [impl_Gaps.l0])
   | succ k1 =>
    have H := HA.out
    clear HA
    simp only [impl_Gaps.l0] at H
    by_cases c14 : x13_1 < (t494.length : Int)
    ·rw [if_pos c14] at H
     have c14b0 : decide (x13_1 < (t494.length : Int)) = true := decide_eq_true c14
     clear c14
     (first | rw [c14b0] | rw [c14b1] | (simp only [i64_w, i32_w]; rw [c14b0]) | skip)
     obtain ⟨c15, H⟩ := zi H
     have c15b0 : decide (0 ≤ x13_1) = true := decide_eq_true c15
     clear c15
     obtain ⟨c16, H⟩ := zi H
     have c16b0 : decide (x13_1 < (t494.length : Int)) = true := decide_eq_true c16
     clear c16
     obtain ⟨bq17, hbq17⟩ : ∃ b_ : Bool, b_ = (rdOf false t494 x13_1) := ⟨_, rfl⟩
     replace H : (if bq17 = true then (impl_Gaps.l0 k1 x3_1 t494 (t494.length : Int) (wrap64 (x13_1 + 1))) else (if x3_1.length < 17592186044416 then (impl_Gaps.l0 k1 (x3_1 ++ [x13_1]) t494 (t494.length : Int) (wrap64 (x13_1 + 1))) else (none))) = some r := by rw [← hbq17] at H; exact H
     have Nbq17 := Aside0.mk hbq17
     clear hbq17
     by_cases c18 : bq17 = true
     ·subst c18
      rw [zT] at H
      have H' := Aside0.mk H
      clear H
      have p497 : 0 ≤ (x13_1 : Int) := of_decide_eq_true (by assumption)
      have q497 : x13_1 < (t494.length : Int) := of_decide_eq_true (by assumption)
      obtain ⟨ad497, e497, hx497_0⟩ := Kd.at_bool (Kd.R_reads' HO_11.out).2.2 x13_1 p497 q497
      (try rw [← Nbq17.out] at hx497_0)
      cases e497
      replace p497 := eq_true p497
      replace q497 := eq_true q497
      go_wp2
      go_roundg k1
      case measure => have := HK1.out; omega
      case rel => exact ⟨(x3_1), (wrap64 (x13_1 + 1)), (by first | rfl | (simp; done) | (simp [*]; done)), H', ⟨by have := HK1.out; omega⟩, ⟨zR HO_3.out⟩, ⟨zR HO_11.out⟩, ⟨zk BK489.out⟩, ⟨zB HB.out⟩⟩
     ·replace c18 := Bool.eq_false_iff.mpr c18
      subst c18
      rw [zF] at H
      obtain ⟨c19, H⟩ := zi H
      have LMc19 := Aside0.mk c19
      clear c19
      obtain ⟨y498, Ny498⟩ : ∃ y_ : List Int, Aside0 (y_ = (x3_1 ++ [x13_1])) := ⟨_, ⟨rfl⟩⟩
      (try rw [Option.bind_some] at H)
      (try rw [← Ny498.out] at H)
      have H' := Aside0.mk H
      clear H
      have p497 : 0 ≤ (x13_1 : Int) := of_decide_eq_true (by assumption)
      have q497 : x13_1 < (t494.length : Int) := of_decide_eq_true (by assumption)
      obtain ⟨ad497, e497, hx497_0⟩ := Kd.at_bool (Kd.R_reads' HO_11.out).2.2 x13_1 p497 q497
      (try rw [← Nbq17.out] at hx497_0)
      cases e497
      replace p497 := eq_true p497
      replace q497 := eq_true q497
      go_wp2_with (first | ((with_reducible refine gate_builtin (b := .append) (xs := #[.tmp 20, .tmp 22]) rfl ?_); at_builtin; refine Kd.R_append (Kd.int .i64) (w0 := w) w.heap.size rfl (.tmp 20) (.tmp 22) 33 3 (.int .i64 0) 8 rfl Try.underlying33 info3 rfl (by decide) (by omega) u3 x3_1 x13_1 [.int .i64 x13_1] (fun _ => True) (fun _ => False) rfl rfl ?aP (fun _ hk => hk.elim) ?aF ?aO ?aB ?aS ?aL ?_; (case aP => exact rfl); (case aB => exact (zB HB.out)); (case aF => exact (fun _ _ => trivial)); (case aO => exact (zR HO_3.out)); (case aS => exact (zS HB.out)); (case aL => have := LMc19.out; omega); intro v499 w20 ho hb hg hat; rw [← Ny498.out] at ho; have n0_ := Aside0.mk (Kd.R_over' (zR HO_11.out) (Kd.R_typed (zR HO_3.out)) (by decide) hg); have n1_ := Aside0.mk (blk_grown (g := gb489) (o := .cells #[.slice A0_0 l0_0.length c0_0] 40 (0, 0)) (zk BK489.out) hg (Kd.R_ne HO_3.out BK489.out (by decide))); have n2_ := Aside0.mk (hb); have n3_ := Aside0.mk (ho); clear HO_11; clear BK489; clear HB; clear HO_3; have HO_11 := n0_; have BK489 := n1_; have HB := n2_; have HO500 := n3_; clear n0_ n1_ n2_ n3_; clear ho hb hg hat))
      go_roundg k1
      case measure => have := HK1.out; omega
      case rel => exact ⟨(y498), (wrap64 (x13_1 + 1)), (by first | rfl | (simp; done) | (simp [*]; done)), H', ⟨by have := HK1.out; omega⟩, ⟨zR HO500.out⟩, ⟨zR HO_11.out⟩, ⟨zk BK489.out⟩, ⟨zB HB.out⟩⟩
    ·rw [if_neg c14] at H
     have c14b0 : decide (x13_1 < (t494.length : Int)) = false := decide_eq_false c14
     clear c14
     (first | rw [c14b0] | rw [c14b1] | (simp only [i64_w, i32_w]; rw [c14b0]) | skip)
     obtain rfl := Option.some.inj H
     go_wp2
     go_ret
     exact ⟨_, by first | rfl | (simp [errW_none, errW_some] <;> rfl) | (simp [*, errW_none, errW_some] <;> rfl), zR HO_3.out, zB HB.out⟩
 ·replace c7 := Bool.eq_false_iff.mpr c7
  subst c7
  rw [zF] at H
  obtain rfl := Option.some.inj H
  go_wp2
  go_ret
  exact ⟨_, by first | rfl | (simp [errW_none, errW_some] <;> rfl) | (simp [*, errW_none, errW_some] <;> rfl), by first | exact Kd.R_nil _ _ _ _ _ | exact Kd.N_nil _ _ _ _ _ | exact Kd.V_nil _ _ _ _ _ | exact Kd.Q_nil _ _ _ _ _ | exact Kd.S_nil _ _ _ _ _, zB HB.out⟩

/-! ### impl_gapList: function 132 -/
def impl_gapList.f (k : Nat) (l0 : List Int) : Option (Bool) := (impl_IsAscending.f k l0).bind fun t501 => (if t501 = true then ((impl_allWithin.f k l0 1 199).bind fun t502 => (some t502)) else (some false))
theorem impl_gapList.mono : ∀ a0 k, LeO (impl_gapList.f k a0) (impl_gapList.f (k + 1) a0) := by
 intro a0 k
 unfold impl_gapList.f
 repeat' first
   | (with_reducible first | exact impl_IsAscending.mono _ _ | exact impl_allWithin.mono _ _ _ _ | exact LeO.refl _ | exact LeO.none _ | refine LeO.ite ?_ ?_ | refine LeO.bind ?_ (fun _ => ?_))
   | exact LeO.none _
   | refine LeO.ite ?_ ?_
   | refine LeO.bind ?_ (fun _ => ?_)
set_option maxHeartbeats 8000000 in
set_option maxRecDepth 100000 in
theorem impl_gapList.calls (k : Nat) (A0 : Option Addr) (c0 : Nat) (l0 : List Int) (r : Bool) (w : World) (hr0 : Kd.C (Kd.int .i64) w A0 l0.length l0) (hc0 : l0.length ≤ c0) (h : impl_gapList.f k l0 = some r) :
  Calls Try.prog 132 #[.slice A0 l0.length c0] w fun e w' => e = .returned (.bool r) ∧ Below w.heap.size w w' := by
 have HR0 := Aside0.mk hr0
 have HC0 := Aside0.mk hc0
 clear hr0 hc0
 have HB := Aside0.mk (Below.refl w.heap.size w)
 have H : ((impl_IsAscending.f k l0).bind fun t501 => (if t501 = true then ((impl_allWithin.f k l0 1 199).bind fun t502 => (some t502)) else (some false))) = some r := h
 clear h
 obtain ⟨t501, A2, H⟩ := zb H
 by_cases c3 : t501 = true
 ·subst c3
  rw [zT] at H
  obtain ⟨t502, A4, H⟩ := zb H
  obtain rfl := Option.some.inj H
  go_enter Try.func132, Try.ntmps132
  go_wp2_with (first | ((with_reducible refine gate_callee (f := 140) rfl ?_); refine goesL_ (some 4) rfl rfl Try.func140 (by kernel_rfl) rfl #[.slice A0 l0.length c0] rfl (by (try simp only [za, zc, zn]); first | done | rfl) ?_; (with_reducible refine (impl_IsAscending.calls k _ _ l0 true _ ?side1 ?side2 A2.out).mono ?_); (case side1 => repeat (first | exact HR0.out | (with_reducible refine Kd.C_alloc ?_ _) | (with_reducible refine Kd.C_drewN ?_ _) | (with_reducible refine Kd.C_drew ?_))); (case side2 => exact HC0.out); rintro e w' ⟨rfl, ⟨nd, rfl⟩⟩; refine ⟨_, rfl, ?_⟩) | (go_at_call 115; (with_reducible refine (impl_allWithin.calls k _ _ l0 1 199 t502 _ ?side1 ?side2 A4.out).mono ?_); (case side1 => repeat (first | exact HR0.out | (with_reducible refine Kd.C_alloc ?_ _) | (with_reducible refine Kd.C_drewN ?_ _) | (with_reducible refine Kd.C_drew ?_))); (case side2 => exact HC0.out); rintro e w5 ⟨rfl, hb⟩; have n0_ := Aside0.mk (below_step (zB HB.out) hb); clear HB; have HB := n0_; clear n0_; (try clear hb); (try clear hb2); (try clear hk); (try clear hi)))
  go_ret
  exact ⟨by first | rfl | (simp [errW_none, errW_some] <;> rfl) | (simp [*, errW_none, errW_some] <;> rfl), zB HB.out⟩
 ·replace c3 := Bool.eq_false_iff.mpr c3
  subst c3
  rw [zF] at H
  obtain rfl := Option.some.inj H
  go_enter Try.func132, Try.ntmps132
  go_wp2_with (first | ((with_reducible refine gate_callee (f := 140) rfl ?_); refine goesL_ (some 4) rfl rfl Try.func140 (by kernel_rfl) rfl #[.slice A0 l0.length c0] rfl (by (try simp only [za, zc, zn]); first | done | rfl) ?_; (with_reducible refine (impl_IsAscending.calls k _ _ l0 false _ ?side1 ?side2 A2.out).mono ?_); (case side1 => repeat (first | exact HR0.out | (with_reducible refine Kd.C_alloc ?_ _) | (with_reducible refine Kd.C_drewN ?_ _) | (with_reducible refine Kd.C_drew ?_))); (case side2 => exact HC0.out); rintro e w' ⟨rfl, ⟨nd, rfl⟩⟩; refine ⟨_, rfl, ?_⟩))
  go_ret
  exact ⟨by first | rfl | (simp [errW_none, errW_some] <;> rfl) | (simp [*, errW_none, errW_some] <;> rfl), zB HB.out⟩

end Go.Proofs.Ytbagfnppeidonaa.PFnExactFromApery
