-- Written by a program of this session (a turned copy of the kit's print; see NOTES.md).
import Derived.Test.YtbagfnppeidonaaPFnExactSumsOfx0
import Derived.Test.YtbagfnppeidonaaPFnExactSumsOfx1
import Derived.Test.YtbagfnppeidonaaPFnExactSumsOfx3
import Derived.Test.YtbagfnppeidonaaPFnExactSumsOfx10
namespace Go.Proofs.Ytbagfnppeidonaa.PFnExactSumsOf
open Go.RowKit Go.Proofs.YtbagfnppeidonaaW.PrintWords Go.Proofs.YtbagfnppeidonaaW.PrintLast Go.Proofs.YtbagfnppeidonaaW.PrintMore
attribute [local go_sem] max2_int min2_int max_two min_two max_three min_three max_four min_four   -- for this text's walks alone
set_option linter.unusedVariables false
set_option linter.unusedSimpArgs false

/-! ### laws_FnExactSumsOf: function 7 -/
def laws_FnExactSumsOf.j0 : Nat → List Int → List Int → List Int → List Int → Bool → Option (Bool)
 | 0, _, _, _, _, _ => none
 | k + 1, x0, x1, x5, x8, x58 => if x58 = true then (some false) else ((laws_markIntS.f k x8 1).bind fun bt354 => ((laws_heldIntS.f k bt354.2 1).bind fun t356 => (if t356 < 0 then (some false) else (if t356 = bt354.1 then ((laws_toIntS.f k x0).bind fun t357 => ((laws_toIntS.f k x1).bind fun t360 => ((impl_SumsOf.f k t357 t360).bind fun t363 => ((laws_eqIntS.f k t363 x5).bind fun t366 => (if t366 = true then ((laws_heldIntS.f k bt354.2 1).bind fun t367 => (if t367 < 0 then (some false) else (if t367 = bt354.1 then (some true) else (some false)))) else (some false)))))) else (some false)))))
def laws_FnExactSumsOf.f (k : Nat) (l0 : List Int) (l1 : List Int) : Option (Bool) := if (l0.length : Int) > 1048576 then (some true) else (if (l1.length : Int) > 1048576 then (some true) else ((laws_toIntS.f k l0).bind fun t322 => ((laws_toIntS.f k l1).bind fun t325 => ((spec_SumsOf.f k t322 t325).bind fun t328 => ((laws_toIntS.f k l0).bind fun t331 => ((laws_toIntS.f k l1).bind fun t334 => ((impl_SumsOf.f k t331 t334).bind fun t337 => ((laws_eqIntS.f k t337 t328).bind fun t340 => (if t340 = true then ((laws_toIntS.f k l0).bind fun t341 => ((laws_eqIntS.f k t331 t341).bind fun t344 => (if t344 = true then ((laws_toIntS.f k l1).bind fun t345 => ((laws_eqIntS.f k t334 t345).bind fun t348 => (if t348 = true then ((laws_markIntS.f k t331 1).bind fun bt349 => ((laws_markIntS.f k t334 bt349.1).bind fun bt351 => (if bt351.1 < 0 then (laws_FnExactSumsOf.j0 k l0 l1 t328 t337 true) else ((laws_eqIntS.f k t337 t328).bind fun t353 => (laws_FnExactSumsOf.j0 k l0 l1 t328 t337 (!t353)))))) else (some false)))) else (some false)))) else (some false))))))))))
theorem laws_FnExactSumsOf.mono_l : ∀ k, (∀ y0 y1 y2 y3 y4, LeO (laws_FnExactSumsOf.j0 k y0 y1 y2 y3 y4) (laws_FnExactSumsOf.j0 (k + 1) y0 y1 y2 y3 y4))
 | 0 => fun _ _ _ _ _ r h => by simp [laws_FnExactSumsOf.j0] at h
 | k + 1 => by
  have ih0 := laws_FnExactSumsOf.mono_l k
  ·intro y0 y1 y2 y3 y4
   unfold laws_FnExactSumsOf.j0
   repeat' first
   | (with_reducible first | exact ih0 _ _ _ _ _ | exact impl_SumsOf.mono _ _ _ | exact laws_eqIntS.mono _ _ _ | exact laws_heldIntS.mono _ _ _ | exact laws_markIntS.mono _ _ _ | exact laws_toIntS.mono _ _ | exact spec_SumsOf.mono _ _ _ | exact LeO.refl _ | exact LeO.none _ | refine LeO.ite ?_ ?_ | refine LeO.bind ?_ (fun _ => ?_))
   | exact LeO.none _
   | refine LeO.ite ?_ ?_
   | refine LeO.bind ?_ (fun _ => ?_)
theorem laws_FnExactSumsOf.mono : ∀ a0 a1 k, LeO (laws_FnExactSumsOf.f k a0 a1) (laws_FnExactSumsOf.f (k + 1) a0 a1) := by
 intro a0 a1 k
 have ih0 := laws_FnExactSumsOf.mono_l k
 unfold laws_FnExactSumsOf.f
 repeat' first
   | (with_reducible first | exact ih0 _ _ _ _ _ | exact impl_SumsOf.mono _ _ _ | exact laws_eqIntS.mono _ _ _ | exact laws_heldIntS.mono _ _ _ | exact laws_markIntS.mono _ _ _ | exact laws_toIntS.mono _ _ | exact spec_SumsOf.mono _ _ _ | exact LeO.refl _ | exact LeO.none _ | refine LeO.ite ?_ ?_ | refine LeO.bind ?_ (fun _ => ?_))
   | exact LeO.none _
   | refine LeO.ite ?_ ?_
   | refine LeO.bind ?_ (fun _ => ?_)
set_option maxHeartbeats 8000000 in
set_option maxRecDepth 100000 in
theorem laws_FnExactSumsOf.calls (k : Nat) (A0 : Option Addr) (c0 : Nat) (l0 : List Int) (A1 : Option Addr) (c1 : Nat) (l1 : List Int) (r : Bool) (w : World) (hr0 : Kd.C (Kd.int .i64) w A0 l0.length l0) (hc0 : l0.length ≤ c0) (hr1 : Kd.C (Kd.int .i64) w A1 l1.length l1) (hc1 : l1.length ≤ c1) (h : laws_FnExactSumsOf.f k l0 l1 = some r) :
  Calls Try.prog 7 #[.slice A0 l0.length c0, .slice A1 l1.length c1] w fun e w' => e = .returned (.bool r) ∧ Below w.heap.size w w' := by
 have HR0 := Aside0.mk hr0
 have HC0 := Aside0.mk hc0
 clear hr0 hc0
 have HR1 := Aside0.mk hr1
 have HC1 := Aside0.mk hc1
 clear hr1 hc1
 have HB := Aside0.mk (Below.refl w.heap.size w)
 have H : (if (l0.length : Int) > 1048576 then (some true) else (if (l1.length : Int) > 1048576 then (some true) else ((laws_toIntS.f k l0).bind fun t322 => ((laws_toIntS.f k l1).bind fun t325 => ((spec_SumsOf.f k t322 t325).bind fun t328 => ((laws_toIntS.f k l0).bind fun t331 => ((laws_toIntS.f k l1).bind fun t334 => ((impl_SumsOf.f k t331 t334).bind fun t337 => ((laws_eqIntS.f k t337 t328).bind fun t340 => (if t340 = true then ((laws_toIntS.f k l0).bind fun t341 => ((laws_eqIntS.f k t331 t341).bind fun t344 => (if t344 = true then ((laws_toIntS.f k l1).bind fun t345 => ((laws_eqIntS.f k t334 t345).bind fun t348 => (if t348 = true then ((laws_markIntS.f k t331 1).bind fun bt349 => ((laws_markIntS.f k t334 bt349.1).bind fun bt351 => (if bt351.1 < 0 then (laws_FnExactSumsOf.j0 k l0 l1 t328 t337 true) else ((laws_eqIntS.f k t337 t328).bind fun t353 => (laws_FnExactSumsOf.j0 k l0 l1 t328 t337 (!t353)))))) else (some false)))) else (some false)))) else (some false))))))))))) = some r := h
 clear h
 by_cases c3 : (l0.length : Int) > 1048576
 ·rw [if_pos c3] at H
  have c3b0 : decide (1048576 < (l0.length : Int)) = true := decide_eq_true c3
  have c3b1 : decide (1048576 < l0.length) = true := decide_eq_true (by omega)
  clear c3
  obtain rfl := Option.some.inj H
  go_enter Try.func7, Try.ntmps7
  go_wp2
  go_ret
  exact ⟨by first | rfl | (simp [errW_none, errW_some] <;> rfl) | (simp [*, errW_none, errW_some] <;> rfl), zB HB.out⟩
 ·rw [if_neg c3] at H
  have c3b0 : decide (1048576 < (l0.length : Int)) = false := decide_eq_false c3
  have c3b1 : decide (1048576 < l0.length) = false := decide_eq_false (by omega)
  clear c3
  by_cases c4 : (l1.length : Int) > 1048576
  ·rw [if_pos c4] at H
   have c4b0 : decide (1048576 < (l1.length : Int)) = true := decide_eq_true c4
   have c4b1 : decide (1048576 < l1.length) = true := decide_eq_true (by omega)
   clear c4
   obtain rfl := Option.some.inj H
   go_enter Try.func7, Try.ntmps7
   go_wp2
   go_ret
   exact ⟨by first | rfl | (simp [errW_none, errW_some] <;> rfl) | (simp [*, errW_none, errW_some] <;> rfl), zB HB.out⟩
  ·rw [if_neg c4] at H
   have c4b0 : decide (1048576 < (l1.length : Int)) = false := decide_eq_false c4
   have c4b1 : decide (1048576 < l1.length) = false := decide_eq_false (by omega)
   clear c4
   obtain ⟨t322, A5, H⟩ := zb H
   obtain ⟨t325, A6, H⟩ := zb H
   obtain ⟨t328, A7, H⟩ := zb H
   obtain ⟨t331, A8, H⟩ := zb H
   obtain ⟨t334, A9, H⟩ := zb H
   obtain ⟨t337, A10, H⟩ := zb H
   obtain ⟨t340, A11, H⟩ := zb H
   have HU12 := Aside0.mk H
   clear H
   go_enter Try.func7, Try.ntmps7
   go_upto_if 34 with (first | ((with_reducible refine gate_callee (f := 27) rfl ?_); refine goesL_ (some 20) rfl rfl Try.func27 (by kernel_rfl) rfl #[.slice A0 l0.length c0] rfl (by (try simp only [za, zc, zn]); first | done | rfl) ?_; (with_reducible refine (laws_toIntS.calls k _ _ l0 t322 _ ?side1 ?side2 A5.out).mono ?_); (case side1 => repeat (first | exact HR0.out | (with_reducible refine Kd.C_alloc ?_ _) | (with_reducible refine Kd.C_drewN ?_ _) | (with_reducible refine Kd.C_drew ?_))); (case side2 => exact HC0.out); rintro e w13 ⟨v323, rfl, ho0, hb⟩; refine ⟨_, rfl, ?_⟩; have n0_ := Aside0.mk (Kd.R_lower ho0 (zS HB.out)); have n1_ := Aside0.mk (below_step (zB HB.out) hb); clear HB; have HO324 := n0_; have HB := n1_; clear n0_ n1_; (try clear hb); (try clear hb2); (try clear hk); (try clear hi); (try clear ho0)) | ((with_reducible refine gate_callee (f := 27) rfl ?_); refine goesL_ (some 22) rfl rfl Try.func27 (by kernel_rfl) rfl #[.slice A1 l1.length c1] rfl (by (try simp only [za, zc, zn]); first | done | rfl) ?_; (with_reducible refine (laws_toIntS.calls k _ _ l1 t325 _ ?side1 ?side2 A6.out).mono ?_); (case side1 => exact zC (Kd.C_below HR1.out HB.out)); (case side2 => exact HC1.out); rintro e w14 ⟨v326, rfl, ho0, hb⟩; refine ⟨_, rfl, ?_⟩; have n0_ := Aside0.mk (Kd.R_elder' (zR HO324.out) (Kd.R_base ho0) hb); have n1_ := Aside0.mk (Kd.R_lower (Kd.R_new' ho0 (Kd.R_lt (zR HO324.out))) (zS HB.out)); have n2_ := Aside0.mk (below_step (zB HB.out) hb); clear HO324; clear HB; have HO324 := n0_; have HO327 := n1_; have HB := n2_; clear n0_ n1_ n2_; (try clear hb); (try clear hb2); (try clear hk); (try clear hi); (try clear ho0); obtain ⟨Ao15, co15, eo15⟩ := Kd.R_slice HO324.out; subst eo15; obtain ⟨Ao16, co16, eo16⟩ := Kd.R_slice HO327.out; subst eo16) | ((with_reducible refine gate_callee (f := 34) rfl ?_); refine goesL_ (some 23) rfl rfl Try.func34 (by kernel_rfl) rfl #[.slice Ao15 t322.length co15, .slice Ao16 t325.length co16] rfl (by (try simp only [za, zc, zn]); first | done | rfl) ?_; (with_reducible refine (spec_SumsOf.calls k _ _ t322 _ _ t325 t328 _ ?side1 ?side2 ?side3 ?side4 A7.out).mono ?_); (case side1 => repeat (first | exact (Kd.R_reads' HO324.out).2.2 | (with_reducible refine Kd.C_alloc ?_ _) | (with_reducible refine Kd.C_drewN ?_ _) | (with_reducible refine Kd.C_drew ?_))); (case side2 => exact (Kd.R_reads' HO324.out).2.1); (case side3 => repeat (first | exact (Kd.R_reads' HO327.out).2.2 | (with_reducible refine Kd.C_alloc ?_ _) | (with_reducible refine Kd.C_drewN ?_ _) | (with_reducible refine Kd.C_drew ?_))); (case side4 => exact (Kd.R_reads' HO327.out).2.1); rintro e w17 ⟨v329, rfl, ho0, hb⟩; refine ⟨_, rfl, ?_⟩; have n0_ := Aside0.mk (Kd.R_elder' (zR HO324.out) (Kd.R_base ho0) hb); have n1_ := Aside0.mk (Kd.R_elder' (zR HO327.out) (Kd.R_base ho0) hb); have n2_ := Aside0.mk (Kd.R_lower (Kd.R_new' (Kd.R_new' ho0 (Kd.R_lt (zR HO324.out))) (Kd.R_lt (zR HO327.out))) (zS HB.out)); have n3_ := Aside0.mk (below_step (zB HB.out) hb); clear HO324; clear HO327; clear HB; have HO324 := n0_; have HO327 := n1_; have HO330 := n2_; have HB := n3_; clear n0_ n1_ n2_ n3_; (try clear hb); (try clear hb2); (try clear hk); (try clear hi); (try clear ho0)) | ((with_reducible refine gate_callee (f := 27) rfl ?_); refine goesL_ (some 25) rfl rfl Try.func27 (by kernel_rfl) rfl #[.slice A0 l0.length c0] rfl (by (try simp only [za, zc, zn]); first | done | rfl) ?_; (with_reducible refine (laws_toIntS.calls k _ _ l0 t331 _ ?side1 ?side2 A8.out).mono ?_); (case side1 => exact zC (Kd.C_below HR0.out HB.out)); (case side2 => exact HC0.out); rintro e w18 ⟨v332, rfl, ho0, hb⟩; refine ⟨_, rfl, ?_⟩; have n0_ := Aside0.mk (Kd.R_elder' (zR HO324.out) (Kd.R_base ho0) hb); have n1_ := Aside0.mk (Kd.R_elder' (zR HO327.out) (Kd.R_base ho0) hb); have n2_ := Aside0.mk (Kd.R_elder' (zR HO330.out) (Kd.R_base ho0) hb); have n3_ := Aside0.mk (Kd.R_lower (Kd.R_new' (Kd.R_new' (Kd.R_new' ho0 (Kd.R_lt (zR HO324.out))) (Kd.R_lt (zR HO327.out))) (Kd.R_lt (zR HO330.out))) (zS HB.out)); have n4_ := Aside0.mk (below_step (zB HB.out) hb); clear HO324; clear HO327; clear HO330; clear HB; have HO324 := n0_; have HO327 := n1_; have HO330 := n2_; have HO333 := n3_; have HB := n4_; clear n0_ n1_ n2_ n3_ n4_; (try clear hb); (try clear hb2); (try clear hk); (try clear hi); (try clear ho0)) | ((with_reducible refine gate_callee (f := 27) rfl ?_); refine goesL_ (some 27) rfl rfl Try.func27 (by kernel_rfl) rfl #[.slice A1 l1.length c1] rfl (by (try simp only [za, zc, zn]); first | done | rfl) ?_; (with_reducible refine (laws_toIntS.calls k _ _ l1 t334 _ ?side1 ?side2 A9.out).mono ?_); (case side1 => exact zC (Kd.C_below HR1.out HB.out)); (case side2 => exact HC1.out); rintro e w19 ⟨v335, rfl, ho0, hb⟩; refine ⟨_, rfl, ?_⟩; have n0_ := Aside0.mk (Kd.R_elder' (zR HO324.out) (Kd.R_base ho0) hb); have n1_ := Aside0.mk (Kd.R_elder' (zR HO327.out) (Kd.R_base ho0) hb); have n2_ := Aside0.mk (Kd.R_elder' (zR HO330.out) (Kd.R_base ho0) hb); have n3_ := Aside0.mk (Kd.R_elder' (zR HO333.out) (Kd.R_base ho0) hb); have n4_ := Aside0.mk (Kd.R_lower (Kd.R_new' (Kd.R_new' (Kd.R_new' (Kd.R_new' ho0 (Kd.R_lt (zR HO324.out))) (Kd.R_lt (zR HO327.out))) (Kd.R_lt (zR HO330.out))) (Kd.R_lt (zR HO333.out))) (zS HB.out)); have n5_ := Aside0.mk (below_step (zB HB.out) hb); clear HO324; clear HO327; clear HO330; clear HO333; clear HB; have HO324 := n0_; have HO327 := n1_; have HO330 := n2_; have HO333 := n3_; have HO336 := n4_; have HB := n5_; clear n0_ n1_ n2_ n3_ n4_ n5_; (try clear hb); (try clear hb2); (try clear hk); (try clear hi); (try clear ho0); obtain ⟨Ao20, co20, eo20⟩ := Kd.R_slice HO333.out; subst eo20; obtain ⟨Ao21, co21, eo21⟩ := Kd.R_slice HO336.out; subst eo21) | ((with_reducible refine gate_callee (f := 35) rfl ?_); refine goesL_ (some 30) rfl rfl Try.func35 (by kernel_rfl) rfl #[.slice Ao20 t331.length co20, .slice Ao21 t334.length co21] rfl (by (try simp only [za, zc, zn]); first | done | rfl) ?_; (with_reducible refine (impl_SumsOf.calls k _ _ t331 _ _ t334 t337 _ ?side1 ?side2 ?side3 ?side4 A10.out).mono ?_); (case side1 => repeat (first | exact (Kd.R_reads' HO333.out).2.2 | (with_reducible refine Kd.C_alloc ?_ _) | (with_reducible refine Kd.C_drewN ?_ _) | (with_reducible refine Kd.C_drew ?_))); (case side2 => exact (Kd.R_reads' HO333.out).2.1); (case side3 => repeat (first | exact (Kd.R_reads' HO336.out).2.2 | (with_reducible refine Kd.C_alloc ?_ _) | (with_reducible refine Kd.C_drewN ?_ _) | (with_reducible refine Kd.C_drew ?_))); (case side4 => exact (Kd.R_reads' HO336.out).2.1); rintro e w22 ⟨v338, rfl, ho0, hb⟩; refine ⟨_, rfl, ?_⟩; have n0_ := Aside0.mk (Kd.R_elder' (zR HO324.out) (Kd.R_base ho0) hb); have n1_ := Aside0.mk (Kd.R_elder' (zR HO327.out) (Kd.R_base ho0) hb); have n2_ := Aside0.mk (Kd.R_elder' (zR HO330.out) (Kd.R_base ho0) hb); have n3_ := Aside0.mk (Kd.R_elder' (zR HO333.out) (Kd.R_base ho0) hb); have n4_ := Aside0.mk (Kd.R_elder' (zR HO336.out) (Kd.R_base ho0) hb); have n5_ := Aside0.mk (Kd.R_lower (Kd.R_new' (Kd.R_new' (Kd.R_new' (Kd.R_new' (Kd.R_new' ho0 (Kd.R_lt (zR HO324.out))) (Kd.R_lt (zR HO327.out))) (Kd.R_lt (zR HO330.out))) (Kd.R_lt (zR HO333.out))) (Kd.R_lt (zR HO336.out))) (zS HB.out)); have n6_ := Aside0.mk (below_step (zB HB.out) hb); clear HO324; clear HO327; clear HO330; clear HO333; clear HO336; clear HB; have HO324 := n0_; have HO327 := n1_; have HO330 := n2_; have HO333 := n3_; have HO336 := n4_; have HO339 := n5_; have HB := n6_; clear n0_ n1_ n2_ n3_ n4_ n5_ n6_; (try clear hb); (try clear hb2); (try clear hk); (try clear hi); (try clear ho0); obtain ⟨Ao23, co23, eo23⟩ := Kd.R_slice HO339.out; subst eo23; obtain ⟨Ao24, co24, eo24⟩ := Kd.R_slice HO330.out; subst eo24) | ((with_reducible refine gate_callee (f := 29) rfl ?_); refine goesL_ (some 33) rfl rfl Try.func29 (by kernel_rfl) rfl #[.slice Ao23 t337.length co23, .slice Ao24 t328.length co24] rfl (by (try simp only [za, zc, zn]); first | done | rfl) ?_; (with_reducible refine (laws_eqIntS.calls k _ _ t337 _ _ t328 t340 _ ?side1 ?side2 ?side3 ?side4 A11.out).mono ?_); (case side1 => repeat (first | exact (Kd.R_reads' HO339.out).2.2 | (with_reducible refine Kd.C_alloc ?_ _) | (with_reducible refine Kd.C_drewN ?_ _) | (with_reducible refine Kd.C_drew ?_))); (case side2 => exact (Kd.R_reads' HO339.out).2.1); (case side3 => repeat (first | exact (Kd.R_reads' HO330.out).2.2 | (with_reducible refine Kd.C_alloc ?_ _) | (with_reducible refine Kd.C_drewN ?_ _) | (with_reducible refine Kd.C_drew ?_))); (case side4 => exact (Kd.R_reads' HO330.out).2.1); rintro e w' ⟨rfl, ⟨nd, rfl⟩⟩; refine ⟨_, rfl, ?_⟩))
   (try simp only [Act.put, List.setIfInBounds_toArray, List.set_cons_zero, List.set_cons_succ])
   have H := HU12.out
   clear HU12
   by_cases c25 : t340 = true
   ·subst c25
    rw [zT] at H
    obtain ⟨t341, A26, H⟩ := zb H
    obtain ⟨t344, A27, H⟩ := zb H
    have HU28 := Aside0.mk H
    clear H
    go_upto_if 39 with (first | ((with_reducible refine gate_callee (f := 27) rfl ?_); refine goesL_ (some 37) rfl rfl Try.func27 (by kernel_rfl) rfl #[.slice A0 l0.length c0] rfl (by (try simp only [za, zc, zn]); first | done | rfl) ?_; (with_reducible refine (laws_toIntS.calls k _ _ l0 t341 _ ?side1 ?side2 A26.out).mono ?_); (case side1 => exact zC (Kd.C_below HR0.out HB.out)); (case side2 => exact HC0.out); rintro e w29 ⟨v342, rfl, ho0, hb⟩; refine ⟨_, rfl, ?_⟩; have n0_ := Aside0.mk (Kd.R_elder' (zR HO324.out) (Kd.R_base ho0) hb); have n1_ := Aside0.mk (Kd.R_elder' (zR HO327.out) (Kd.R_base ho0) hb); have n2_ := Aside0.mk (Kd.R_elder' (zR HO330.out) (Kd.R_base ho0) hb); have n3_ := Aside0.mk (Kd.R_elder' (zR HO333.out) (Kd.R_base ho0) hb); have n4_ := Aside0.mk (Kd.R_elder' (zR HO336.out) (Kd.R_base ho0) hb); have n5_ := Aside0.mk (Kd.R_elder' (zR HO339.out) (Kd.R_base ho0) hb); have n6_ := Aside0.mk (Kd.R_lower (Kd.R_new' (Kd.R_new' (Kd.R_new' (Kd.R_new' (Kd.R_new' (Kd.R_new' ho0 (Kd.R_lt (zR HO324.out))) (Kd.R_lt (zR HO327.out))) (Kd.R_lt (zR HO330.out))) (Kd.R_lt (zR HO333.out))) (Kd.R_lt (zR HO336.out))) (Kd.R_lt (zR HO339.out))) (zS HB.out)); have n7_ := Aside0.mk (below_step (zB HB.out) hb); clear HO324; clear HO327; clear HO330; clear HO333; clear HO336; clear HO339; clear HB; have HO324 := n0_; have HO327 := n1_; have HO330 := n2_; have HO333 := n3_; have HO336 := n4_; have HO339 := n5_; have HO343 := n6_; have HB := n7_; clear n0_ n1_ n2_ n3_ n4_ n5_ n6_ n7_; (try clear hb); (try clear hb2); (try clear hk); (try clear hi); (try clear ho0); obtain ⟨Ao30, co30, eo30⟩ := Kd.R_slice HO343.out; subst eo30) | ((with_reducible refine gate_callee (f := 29) rfl ?_); refine goesL_ (some 38) rfl rfl Try.func29 (by kernel_rfl) rfl #[.slice Ao20 t331.length co20, .slice Ao30 t341.length co30] rfl (by (try simp only [za, zc, zn]); first | done | rfl) ?_; (with_reducible refine (laws_eqIntS.calls k _ _ t331 _ _ t341 t344 _ ?side1 ?side2 ?side3 ?side4 A27.out).mono ?_); (case side1 => repeat (first | exact (Kd.R_reads' HO333.out).2.2 | (with_reducible refine Kd.C_alloc ?_ _) | (with_reducible refine Kd.C_drewN ?_ _) | (with_reducible refine Kd.C_drew ?_))); (case side2 => exact (Kd.R_reads' HO333.out).2.1); (case side3 => repeat (first | exact (Kd.R_reads' HO343.out).2.2 | (with_reducible refine Kd.C_alloc ?_ _) | (with_reducible refine Kd.C_drewN ?_ _) | (with_reducible refine Kd.C_drew ?_))); (case side4 => exact (Kd.R_reads' HO343.out).2.1); rintro e w' ⟨rfl, ⟨nd, rfl⟩⟩; refine ⟨_, rfl, ?_⟩))
    (try simp only [Act.put, List.setIfInBounds_toArray, List.set_cons_zero, List.set_cons_succ])
    have H := HU28.out
    clear HU28
    by_cases c31 : t344 = true
    ·subst c31
     rw [zT] at H
     obtain ⟨t345, A32, H⟩ := zb H
     obtain ⟨t348, A33, H⟩ := zb H
     have HU34 := Aside0.mk H
     clear H
     go_upto_if 44 with (first | ((with_reducible refine gate_callee (f := 27) rfl ?_); refine goesL_ (some 42) rfl rfl Try.func27 (by kernel_rfl) rfl #[.slice A1 l1.length c1] rfl (by (try simp only [za, zc, zn]); first | done | rfl) ?_; (with_reducible refine (laws_toIntS.calls k _ _ l1 t345 _ ?side1 ?side2 A32.out).mono ?_); (case side1 => exact zC (Kd.C_below HR1.out HB.out)); (case side2 => exact HC1.out); rintro e w35 ⟨v346, rfl, ho0, hb⟩; refine ⟨_, rfl, ?_⟩; have n0_ := Aside0.mk (Kd.R_elder' (zR HO324.out) (Kd.R_base ho0) hb); have n1_ := Aside0.mk (Kd.R_elder' (zR HO327.out) (Kd.R_base ho0) hb); have n2_ := Aside0.mk (Kd.R_elder' (zR HO330.out) (Kd.R_base ho0) hb); have n3_ := Aside0.mk (Kd.R_elder' (zR HO333.out) (Kd.R_base ho0) hb); have n4_ := Aside0.mk (Kd.R_elder' (zR HO336.out) (Kd.R_base ho0) hb); have n5_ := Aside0.mk (Kd.R_elder' (zR HO339.out) (Kd.R_base ho0) hb); have n6_ := Aside0.mk (Kd.R_elder' (zR HO343.out) (Kd.R_base ho0) hb); have n7_ := Aside0.mk (Kd.R_lower (Kd.R_new' (Kd.R_new' (Kd.R_new' (Kd.R_new' (Kd.R_new' (Kd.R_new' (Kd.R_new' ho0 (Kd.R_lt (zR HO324.out))) (Kd.R_lt (zR HO327.out))) (Kd.R_lt (zR HO330.out))) (Kd.R_lt (zR HO333.out))) (Kd.R_lt (zR HO336.out))) (Kd.R_lt (zR HO339.out))) (Kd.R_lt (zR HO343.out))) (zS HB.out)); have n8_ := Aside0.mk (below_step (zB HB.out) hb); clear HO324; clear HO327; clear HO330; clear HO333; clear HO336; clear HO339; clear HO343; clear HB; have HO324 := n0_; have HO327 := n1_; have HO330 := n2_; have HO333 := n3_; have HO336 := n4_; have HO339 := n5_; have HO343 := n6_; have HO347 := n7_; have HB := n8_; clear n0_ n1_ n2_ n3_ n4_ n5_ n6_ n7_ n8_; (try clear hb); (try clear hb2); (try clear hk); (try clear hi); (try clear ho0); obtain ⟨Ao36, co36, eo36⟩ := Kd.R_slice HO347.out; subst eo36) | ((with_reducible refine gate_callee (f := 29) rfl ?_); refine goesL_ (some 43) rfl rfl Try.func29 (by kernel_rfl) rfl #[.slice Ao21 t334.length co21, .slice Ao36 t345.length co36] rfl (by (try simp only [za, zc, zn]); first | done | rfl) ?_; (with_reducible refine (laws_eqIntS.calls k _ _ t334 _ _ t345 t348 _ ?side1 ?side2 ?side3 ?side4 A33.out).mono ?_); (case side1 => repeat (first | exact (Kd.R_reads' HO336.out).2.2 | (with_reducible refine Kd.C_alloc ?_ _) | (with_reducible refine Kd.C_drewN ?_ _) | (with_reducible refine Kd.C_drew ?_))); (case side2 => exact (Kd.R_reads' HO336.out).2.1); (case side3 => repeat (first | exact (Kd.R_reads' HO347.out).2.2 | (with_reducible refine Kd.C_alloc ?_ _) | (with_reducible refine Kd.C_drewN ?_ _) | (with_reducible refine Kd.C_drew ?_))); (case side4 => exact (Kd.R_reads' HO347.out).2.1); rintro e w' ⟨rfl, ⟨nd, rfl⟩⟩; refine ⟨_, rfl, ?_⟩))
     (try simp only [Act.put, List.setIfInBounds_toArray, List.set_cons_zero, List.set_cons_succ])
     have H := HU34.out
     clear HU34
     by_cases c37 : t348 = true
     ·subst c37
      rw [zT] at H
      obtain ⟨⟨t349, t350⟩, A38, H⟩ := zb H
      (try dsimp only at H)
      obtain ⟨⟨t351, t352⟩, A39, H⟩ := zb H
      (try dsimp only at H)
      have HC40 := Aside0.mk H
      clear H
      go_upto_region 18 with (first | ((with_reducible refine gate_callee (f := 30) rfl ?_); refine goesL_ (some 47) rfl rfl Try.func30 (by kernel_rfl) rfl #[.slice Ao20 t331.length co20, .int .i64 1] rfl (by (try simp only [za, zc, zn]); first | done | rfl) ?_; (with_reducible refine (laws_markIntS.calls k (fun k_ => some k_ = (.slice Ao20 t331.length co20 : Value).ownBlock) (.slice Ao20 t331.length co20) t331 1 t349 t350 w _ ?side1 ?side2 A38.out).mono ?_); (case side1 => repeat (first | (with_reducible first | exact HB.out | apply below_alloc | apply pw_below_drewN | apply below_drew1) | exact HB.out)); (case side2 => exact Kd.R_tight rfl HO333.out); rintro e w41 ⟨rfl, hy0, hb, hkp⟩; refine ⟨_, rfl, ?_⟩; have n0_ := Aside0.mk (Kd.R_mono (ok' := fun k_ => some k_ ≠ (.slice Ao16 t325.length co16 : Value).ownBlock ∧ some k_ ≠ (.slice Ao24 t328.length co24 : Value).ownBlock ∧ some k_ ≠ (.slice Ao20 t331.length co20 : Value).ownBlock ∧ some k_ ≠ (.slice Ao21 t334.length co21 : Value).ownBlock ∧ some k_ ≠ (.slice Ao23 t337.length co23 : Value).ownBlock ∧ some k_ ≠ (.slice Ao30 t341.length co30 : Value).ownBlock ∧ some k_ ≠ (.slice Ao36 t345.length co36 : Value).ownBlock) (Kd.R_keptB (HO324.out) hkp (fun k_ hk_ hs_ => by first | exact (hk_.1.1.1.1.2) hs_ | (revert hk_ hs_; simp +contextual))) (fun k_ hk_ => by first | exact ⟨hk_.1.1.1.1.1.1.1.2, hk_.1.1.1.1.1.1.2, hk_.1.1.1.1.1.2, hk_.1.1.1.1.2, hk_.1.1.1.2, hk_.1.1.2, hk_.1.2⟩ | (revert hk_; simp +contextual))); have n1_ := Aside0.mk (Kd.R_mono (ok' := fun k_ => some k_ ≠ (.slice Ao15 t322.length co15 : Value).ownBlock ∧ some k_ ≠ (.slice Ao24 t328.length co24 : Value).ownBlock ∧ some k_ ≠ (.slice Ao20 t331.length co20 : Value).ownBlock ∧ some k_ ≠ (.slice Ao21 t334.length co21 : Value).ownBlock ∧ some k_ ≠ (.slice Ao23 t337.length co23 : Value).ownBlock ∧ some k_ ≠ (.slice Ao30 t341.length co30 : Value).ownBlock ∧ some k_ ≠ (.slice Ao36 t345.length co36 : Value).ownBlock) (Kd.R_keptB (HO327.out) hkp (fun k_ hk_ hs_ => by first | exact (hk_.1.1.1.1.2) hs_ | (revert hk_ hs_; simp +contextual))) (fun k_ hk_ => by first | exact ⟨hk_.1.1.1.1.1.1.1.2, hk_.1.1.1.1.1.1.2, hk_.1.1.1.1.1.2, hk_.1.1.1.1.2, hk_.1.1.1.2, hk_.1.1.2, hk_.1.2⟩ | (revert hk_; simp +contextual))); have n2_ := Aside0.mk (Kd.R_mono (ok' := fun k_ => some k_ ≠ (.slice Ao15 t322.length co15 : Value).ownBlock ∧ some k_ ≠ (.slice Ao16 t325.length co16 : Value).ownBlock ∧ some k_ ≠ (.slice Ao20 t331.length co20 : Value).ownBlock ∧ some k_ ≠ (.slice Ao21 t334.length co21 : Value).ownBlock ∧ some k_ ≠ (.slice Ao23 t337.length co23 : Value).ownBlock ∧ some k_ ≠ (.slice Ao30 t341.length co30 : Value).ownBlock ∧ some k_ ≠ (.slice Ao36 t345.length co36 : Value).ownBlock) (Kd.R_keptB (HO330.out) hkp (fun k_ hk_ hs_ => by first | exact (hk_.1.1.1.1.2) hs_ | (revert hk_ hs_; simp +contextual))) (fun k_ hk_ => by first | exact ⟨hk_.1.1.1.1.1.1.1.2, hk_.1.1.1.1.1.1.2, hk_.1.1.1.1.1.2, hk_.1.1.1.1.2, hk_.1.1.1.2, hk_.1.1.2, hk_.1.2⟩ | (revert hk_; simp +contextual))); have n3_ := Aside0.mk (Kd.R_reok rfl hy0 (fun k_ e_ => HO333.out.1 k_ e_)); have n4_ := Aside0.mk (Kd.R_mono (ok' := fun k_ => some k_ ≠ (.slice Ao15 t322.length co15 : Value).ownBlock ∧ some k_ ≠ (.slice Ao16 t325.length co16 : Value).ownBlock ∧ some k_ ≠ (.slice Ao24 t328.length co24 : Value).ownBlock ∧ some k_ ≠ (.slice Ao20 t331.length co20 : Value).ownBlock ∧ some k_ ≠ (.slice Ao23 t337.length co23 : Value).ownBlock ∧ some k_ ≠ (.slice Ao30 t341.length co30 : Value).ownBlock ∧ some k_ ≠ (.slice Ao36 t345.length co36 : Value).ownBlock) (Kd.R_keptB (HO336.out) hkp (fun k_ hk_ hs_ => by first | exact (hk_.1.1.1.2) hs_ | (revert hk_ hs_; simp +contextual))) (fun k_ hk_ => by first | exact ⟨hk_.1.1.1.1.1.1.1.2, hk_.1.1.1.1.1.1.2, hk_.1.1.1.1.1.2, hk_.1.1.1.1.2, hk_.1.1.1.2, hk_.1.1.2, hk_.1.2⟩ | (revert hk_; simp +contextual))); have n5_ := Aside0.mk (Kd.R_mono (ok' := fun k_ => some k_ ≠ (.slice Ao15 t322.length co15 : Value).ownBlock ∧ some k_ ≠ (.slice Ao16 t325.length co16 : Value).ownBlock ∧ some k_ ≠ (.slice Ao24 t328.length co24 : Value).ownBlock ∧ some k_ ≠ (.slice Ao20 t331.length co20 : Value).ownBlock ∧ some k_ ≠ (.slice Ao21 t334.length co21 : Value).ownBlock ∧ some k_ ≠ (.slice Ao30 t341.length co30 : Value).ownBlock ∧ some k_ ≠ (.slice Ao36 t345.length co36 : Value).ownBlock) (Kd.R_keptB (HO339.out) hkp (fun k_ hk_ hs_ => by first | exact (hk_.1.1.1.2) hs_ | (revert hk_ hs_; simp +contextual))) (fun k_ hk_ => by first | exact ⟨hk_.1.1.1.1.1.1.1.2, hk_.1.1.1.1.1.1.2, hk_.1.1.1.1.1.2, hk_.1.1.1.1.2, hk_.1.1.1.2, hk_.1.1.2, hk_.1.2⟩ | (revert hk_; simp +contextual))); have n6_ := Aside0.mk (Kd.R_mono (ok' := fun k_ => some k_ ≠ (.slice Ao15 t322.length co15 : Value).ownBlock ∧ some k_ ≠ (.slice Ao16 t325.length co16 : Value).ownBlock ∧ some k_ ≠ (.slice Ao24 t328.length co24 : Value).ownBlock ∧ some k_ ≠ (.slice Ao20 t331.length co20 : Value).ownBlock ∧ some k_ ≠ (.slice Ao21 t334.length co21 : Value).ownBlock ∧ some k_ ≠ (.slice Ao23 t337.length co23 : Value).ownBlock ∧ some k_ ≠ (.slice Ao36 t345.length co36 : Value).ownBlock) (Kd.R_keptB (HO343.out) hkp (fun k_ hk_ hs_ => by first | exact (hk_.1.1.1.2) hs_ | (revert hk_ hs_; simp +contextual))) (fun k_ hk_ => by first | exact ⟨hk_.1.1.1.1.1.1.1.2, hk_.1.1.1.1.1.1.2, hk_.1.1.1.1.1.2, hk_.1.1.1.1.2, hk_.1.1.1.2, hk_.1.1.2, hk_.1.2⟩ | (revert hk_; simp +contextual))); have n7_ := Aside0.mk (Kd.R_mono (ok' := fun k_ => some k_ ≠ (.slice Ao15 t322.length co15 : Value).ownBlock ∧ some k_ ≠ (.slice Ao16 t325.length co16 : Value).ownBlock ∧ some k_ ≠ (.slice Ao24 t328.length co24 : Value).ownBlock ∧ some k_ ≠ (.slice Ao20 t331.length co20 : Value).ownBlock ∧ some k_ ≠ (.slice Ao21 t334.length co21 : Value).ownBlock ∧ some k_ ≠ (.slice Ao23 t337.length co23 : Value).ownBlock ∧ some k_ ≠ (.slice Ao30 t341.length co30 : Value).ownBlock) (Kd.R_keptB (HO347.out) hkp (fun k_ hk_ hs_ => by first | exact (hk_.1.1.1.2) hs_ | (revert hk_ hs_; simp +contextual))) (fun k_ hk_ => by first | exact ⟨hk_.1.1.1.1.1.1.1.2, hk_.1.1.1.1.1.1.2, hk_.1.1.1.1.1.2, hk_.1.1.1.1.2, hk_.1.1.1.2, hk_.1.1.2, hk_.1.2⟩ | (revert hk_; simp +contextual))); have n8_ := Aside0.mk (hb); clear HO324; clear HO327; clear HO330; clear HO333; clear HO336; clear HO339; clear HO343; clear HO347; clear HB; have HO324 := n0_; have HO327 := n1_; have HO330 := n2_; have HO333 := n3_; have HO336 := n4_; have HO339 := n5_; have HO343 := n6_; have HO347 := n7_; have HB := n8_; clear n0_ n1_ n2_ n3_ n4_ n5_ n6_ n7_ n8_; (try clear hb); (try clear hkp); (try clear hy0)) | ((with_reducible refine gate_callee (f := 30) rfl ?_); refine goesL_ (some 50) rfl rfl Try.func30 (by kernel_rfl) rfl #[.slice Ao21 t334.length co21, .int .i64 t349] rfl (by (try simp only [za, zc, zn]); first | done | rfl) ?_; (with_reducible refine (laws_markIntS.calls k (fun k_ => some k_ = (.slice Ao21 t334.length co21 : Value).ownBlock) (.slice Ao21 t334.length co21) t334 t349 t351 t352 w _ ?side1 ?side2 A39.out).mono ?_); (case side1 => repeat (first | (with_reducible first | exact HB.out | apply below_alloc | apply pw_below_drewN | apply below_drew1) | exact HB.out)); (case side2 => exact Kd.R_tight rfl HO336.out); rintro e w42 ⟨rfl, hy0, hb, hkp⟩; refine ⟨_, rfl, ?_⟩; have n0_ := Aside0.mk (Kd.R_mono (ok' := fun k_ => some k_ ≠ (.slice Ao16 t325.length co16 : Value).ownBlock ∧ some k_ ≠ (.slice Ao24 t328.length co24 : Value).ownBlock ∧ some k_ ≠ (.slice Ao20 t331.length co20 : Value).ownBlock ∧ some k_ ≠ (.slice Ao21 t334.length co21 : Value).ownBlock ∧ some k_ ≠ (.slice Ao23 t337.length co23 : Value).ownBlock ∧ some k_ ≠ (.slice Ao30 t341.length co30 : Value).ownBlock ∧ some k_ ≠ (.slice Ao36 t345.length co36 : Value).ownBlock) (Kd.R_keptB (HO324.out) hkp (fun k_ hk_ hs_ => by first | exact (hk_.2.2.2.1) hs_ | (revert hk_ hs_; simp +contextual))) (fun k_ hk_ => by first | exact ⟨hk_.1.1, hk_.1.2.1, hk_.1.2.2.1, hk_.1.2.2.2.1, hk_.1.2.2.2.2.1, hk_.1.2.2.2.2.2.1, hk_.1.2.2.2.2.2.2⟩ | (revert hk_; simp +contextual))); have n1_ := Aside0.mk (Kd.R_mono (ok' := fun k_ => some k_ ≠ (.slice Ao15 t322.length co15 : Value).ownBlock ∧ some k_ ≠ (.slice Ao24 t328.length co24 : Value).ownBlock ∧ some k_ ≠ (.slice Ao20 t331.length co20 : Value).ownBlock ∧ some k_ ≠ (.slice Ao21 t334.length co21 : Value).ownBlock ∧ some k_ ≠ (.slice Ao23 t337.length co23 : Value).ownBlock ∧ some k_ ≠ (.slice Ao30 t341.length co30 : Value).ownBlock ∧ some k_ ≠ (.slice Ao36 t345.length co36 : Value).ownBlock) (Kd.R_keptB (HO327.out) hkp (fun k_ hk_ hs_ => by first | exact (hk_.2.2.2.1) hs_ | (revert hk_ hs_; simp +contextual))) (fun k_ hk_ => by first | exact ⟨hk_.1.1, hk_.1.2.1, hk_.1.2.2.1, hk_.1.2.2.2.1, hk_.1.2.2.2.2.1, hk_.1.2.2.2.2.2.1, hk_.1.2.2.2.2.2.2⟩ | (revert hk_; simp +contextual))); have n2_ := Aside0.mk (Kd.R_mono (ok' := fun k_ => some k_ ≠ (.slice Ao15 t322.length co15 : Value).ownBlock ∧ some k_ ≠ (.slice Ao16 t325.length co16 : Value).ownBlock ∧ some k_ ≠ (.slice Ao20 t331.length co20 : Value).ownBlock ∧ some k_ ≠ (.slice Ao21 t334.length co21 : Value).ownBlock ∧ some k_ ≠ (.slice Ao23 t337.length co23 : Value).ownBlock ∧ some k_ ≠ (.slice Ao30 t341.length co30 : Value).ownBlock ∧ some k_ ≠ (.slice Ao36 t345.length co36 : Value).ownBlock) (Kd.R_keptB (HO330.out) hkp (fun k_ hk_ hs_ => by first | exact (hk_.2.2.2.1) hs_ | (revert hk_ hs_; simp +contextual))) (fun k_ hk_ => by first | exact ⟨hk_.1.1, hk_.1.2.1, hk_.1.2.2.1, hk_.1.2.2.2.1, hk_.1.2.2.2.2.1, hk_.1.2.2.2.2.2.1, hk_.1.2.2.2.2.2.2⟩ | (revert hk_; simp +contextual))); have n3_ := Aside0.mk (Kd.R_mono (ok' := fun k_ => some k_ ≠ (.slice Ao15 t322.length co15 : Value).ownBlock ∧ some k_ ≠ (.slice Ao16 t325.length co16 : Value).ownBlock ∧ some k_ ≠ (.slice Ao24 t328.length co24 : Value).ownBlock ∧ some k_ ≠ (.slice Ao21 t334.length co21 : Value).ownBlock ∧ some k_ ≠ (.slice Ao23 t337.length co23 : Value).ownBlock ∧ some k_ ≠ (.slice Ao30 t341.length co30 : Value).ownBlock ∧ some k_ ≠ (.slice Ao36 t345.length co36 : Value).ownBlock) (Kd.R_keptB (HO333.out) hkp (fun k_ hk_ hs_ => by first | exact (hk_.1.1.1.2) hs_ | (revert hk_ hs_; simp +contextual))) (fun k_ hk_ => by first | exact ⟨hk_.1.1.1.1.1.1.1.2, hk_.1.1.1.1.1.1.2, hk_.1.1.1.1.1.2, hk_.1.1.1.1.2, hk_.1.1.1.2, hk_.1.1.2, hk_.1.2⟩ | (revert hk_; simp +contextual))); have n4_ := Aside0.mk (Kd.R_reok rfl hy0 (fun k_ e_ => HO336.out.1 k_ e_)); have n5_ := Aside0.mk (Kd.R_mono (ok' := fun k_ => some k_ ≠ (.slice Ao15 t322.length co15 : Value).ownBlock ∧ some k_ ≠ (.slice Ao16 t325.length co16 : Value).ownBlock ∧ some k_ ≠ (.slice Ao24 t328.length co24 : Value).ownBlock ∧ some k_ ≠ (.slice Ao20 t331.length co20 : Value).ownBlock ∧ some k_ ≠ (.slice Ao21 t334.length co21 : Value).ownBlock ∧ some k_ ≠ (.slice Ao30 t341.length co30 : Value).ownBlock ∧ some k_ ≠ (.slice Ao36 t345.length co36 : Value).ownBlock) (Kd.R_keptB (HO339.out) hkp (fun k_ hk_ hs_ => by first | exact (hk_.2.2.2.2.1) hs_ | (revert hk_ hs_; simp +contextual))) (fun k_ hk_ => by first | exact ⟨hk_.1.1, hk_.1.2.1, hk_.1.2.2.1, hk_.1.2.2.2.1, hk_.1.2.2.2.2.1, hk_.1.2.2.2.2.2.1, hk_.1.2.2.2.2.2.2⟩ | (revert hk_; simp +contextual))); have n6_ := Aside0.mk (Kd.R_mono (ok' := fun k_ => some k_ ≠ (.slice Ao15 t322.length co15 : Value).ownBlock ∧ some k_ ≠ (.slice Ao16 t325.length co16 : Value).ownBlock ∧ some k_ ≠ (.slice Ao24 t328.length co24 : Value).ownBlock ∧ some k_ ≠ (.slice Ao20 t331.length co20 : Value).ownBlock ∧ some k_ ≠ (.slice Ao21 t334.length co21 : Value).ownBlock ∧ some k_ ≠ (.slice Ao23 t337.length co23 : Value).ownBlock ∧ some k_ ≠ (.slice Ao36 t345.length co36 : Value).ownBlock) (Kd.R_keptB (HO343.out) hkp (fun k_ hk_ hs_ => by first | exact (hk_.2.2.2.2.1) hs_ | (revert hk_ hs_; simp +contextual))) (fun k_ hk_ => by first | exact ⟨hk_.1.1, hk_.1.2.1, hk_.1.2.2.1, hk_.1.2.2.2.1, hk_.1.2.2.2.2.1, hk_.1.2.2.2.2.2.1, hk_.1.2.2.2.2.2.2⟩ | (revert hk_; simp +contextual))); have n7_ := Aside0.mk (Kd.R_mono (ok' := fun k_ => some k_ ≠ (.slice Ao15 t322.length co15 : Value).ownBlock ∧ some k_ ≠ (.slice Ao16 t325.length co16 : Value).ownBlock ∧ some k_ ≠ (.slice Ao24 t328.length co24 : Value).ownBlock ∧ some k_ ≠ (.slice Ao20 t331.length co20 : Value).ownBlock ∧ some k_ ≠ (.slice Ao21 t334.length co21 : Value).ownBlock ∧ some k_ ≠ (.slice Ao23 t337.length co23 : Value).ownBlock ∧ some k_ ≠ (.slice Ao30 t341.length co30 : Value).ownBlock) (Kd.R_keptB (HO347.out) hkp (fun k_ hk_ hs_ => by first | exact (hk_.2.2.2.2.1) hs_ | (revert hk_ hs_; simp +contextual))) (fun k_ hk_ => by first | exact ⟨hk_.1.1, hk_.1.2.1, hk_.1.2.2.1, hk_.1.2.2.2.1, hk_.1.2.2.2.2.1, hk_.1.2.2.2.2.2.1, hk_.1.2.2.2.2.2.2⟩ | (revert hk_; simp +contextual))); have n8_ := Aside0.mk (hb); clear HO324; clear HO327; clear HO330; clear HO333; clear HO336; clear HO339; clear HO343; clear HO347; clear HB; have HO324 := n0_; have HO327 := n1_; have HO330 := n2_; have HO333 := n3_; have HO336 := n4_; have HO339 := n5_; have HO343 := n6_; have HO347 := n7_; have HB := n8_; clear n0_ n1_ n2_ n3_ n4_ n5_ n6_ n7_ n8_; (try clear hb); (try clear hkp); (try clear hy0)))
      (try simp only [Act.put, List.setIfInBounds_toArray, List.set_cons_zero, List.set_cons_succ])
      go_cut [58] (fun v58 wc => ∃ (kq : Nat) (x58_39 : Bool), v58 = .bool x58_39 ∧ Aside0 (laws_FnExactSumsOf.j0 kq l0 l1 t328 t337 x58_39 = some r) ∧ Aside0 (kq ≤ k) ∧ Aside0 (Kd.R (Kd.int .i64) 3 wc w.heap.size (fun k_ => some k_ ≠ ((.slice Ao23 t337.length co23) : Value).ownBlock) (.slice Ao24 t328.length co24) t328) ∧ Aside0 (Kd.R (Kd.int .i64) 3 wc w.heap.size (fun k_ => some k_ ≠ ((.slice Ao24 t328.length co24) : Value).ownBlock) (.slice Ao23 t337.length co23) t337) ∧ Aside0 (Below w.heap.size w wc))
      case first =>
       have H := HC40.out
       clear HC40
       by_cases c43 : t351 < 0
       ·rw [if_pos c43] at H
        have c43b0 : decide (t351 < 0) = true := decide_eq_true c43
        clear c43
        (first | rw [c43b0] | rw [c43b1] | (simp only [i64_w, i32_w]; rw [c43b0]) | skip)
        have H' := Aside0.mk H
        clear H
        go_wp2
        go_meet
        case rel => exact ⟨_, (true), (by first | rfl | (simp; done) | (simp [*]; done)), H', ⟨by first | omega | exact Nat.le_refl _⟩, ⟨zR (Kd.R_mono HO330.out (fun _ hk => hk.2.2.2.2.1))⟩, ⟨zR (Kd.R_mono HO339.out (fun _ hk => hk.2.2.1))⟩, ⟨zB HB.out⟩⟩
       ·rw [if_neg c43] at H
        have c43b0 : decide (t351 < 0) = false := decide_eq_false c43
        clear c43
        (first | rw [c43b0] | rw [c43b1] | (simp only [i64_w, i32_w]; rw [c43b0]) | skip)
        obtain ⟨t353, A44, H⟩ := zb H
        have H' := Aside0.mk H
        clear H
        go_wp2_with (first | (go_at_call 29; (with_reducible refine (laws_eqIntS.calls k _ _ t337 _ _ t328 t353 _ ?side1 ?side2 ?side3 ?side4 A44.out).mono ?_); (case side1 => repeat (first | exact (Kd.R_reads' HO339.out).2.2 | (with_reducible refine Kd.C_alloc ?_ _) | (with_reducible refine Kd.C_drewN ?_ _) | (with_reducible refine Kd.C_drew ?_))); (case side2 => exact (Kd.R_reads' HO339.out).2.1); (case side3 => repeat (first | exact (Kd.R_reads' HO330.out).2.2 | (with_reducible refine Kd.C_alloc ?_ _) | (with_reducible refine Kd.C_drewN ?_ _) | (with_reducible refine Kd.C_drew ?_))); (case side4 => exact (Kd.R_reads' HO330.out).2.1); rintro e w' ⟨rfl, ⟨nd, rfl⟩⟩))
        go_meet
        case rel => exact ⟨_, (!t353), (by first | rfl | (simp; done) | (simp [*]; done)), H', ⟨by first | omega | exact Nat.le_refl _⟩, ⟨zR (Kd.R_mono HO330.out (fun _ hk => hk.2.2.2.2.1))⟩, ⟨zR (Kd.R_mono HO339.out (fun _ hk => hk.2.2.1))⟩, ⟨zB HB.out⟩⟩
      case rest =>
       clear HC40
       try clear c1
       try clear c2
       try clear p2
       try clear c3
       try clear c3b0
       try clear c3b1
       try clear c4
       try clear c4b0
       try clear c4b1
       try clear c7
       try clear c25
       try clear c27
       try clear c29
       try clear c30
       try clear c31
       try clear c34
       try clear c35
       try clear c37
       try clear c43
       try clear c43b0
       obtain ⟨kq, x58_39, rfl, HA, HJ39, HO_5, HO_8, HB⟩ := hcut
       cases kq with
       | zero => exact absurd HA.out (by simp [laws_FnExactSumsOf.j0])
       | succ kj39 =>
        have H := HA.out
        clear HA
        simp only [laws_FnExactSumsOf.j0] at H
        by_cases c45 : x58_39 = true
        ·subst c45
         rw [zT] at H
         obtain rfl := Option.some.inj H
         go_wp2
         go_ret
         exact ⟨by first | rfl | (simp [errW_none, errW_some] <;> rfl) | (simp [*, errW_none, errW_some] <;> rfl), zB HB.out⟩
        ·replace c45 := Bool.eq_false_iff.mpr c45
         subst c45
         rw [zF] at H
         obtain ⟨⟨t354, t355⟩, A46, H⟩ := zb H
         (try dsimp only at H)
         obtain ⟨t356, A47, H⟩ := zb H
         have HU48 := Aside0.mk H
         clear H
         go_upto_if 66 with (first | ((with_reducible refine gate_callee (f := 30) rfl ?_); refine goesL_ (some 61) rfl rfl Try.func30 (by kernel_rfl) rfl #[.slice Ao23 t337.length co23, .int .i64 1] rfl (by (try simp only [za, zc, zn]); first | done | rfl) ?_; (with_reducible refine (laws_markIntS.calls kj39 (fun k_ => some k_ = (.slice Ao23 t337.length co23 : Value).ownBlock) (.slice Ao23 t337.length co23) t337 1 t354 t355 w _ ?side1 ?side2 A46.out).mono ?_); (case side1 => repeat (first | (with_reducible first | exact HB.out | apply below_alloc | apply pw_below_drewN | apply below_drew1) | exact HB.out)); (case side2 => exact Kd.R_tight rfl HO_8.out); rintro e w49 ⟨rfl, hy0, hb, hkp⟩; refine ⟨_, rfl, ?_⟩; have n0_ := Aside0.mk (Kd.R_mono (ok' := fun k_ => some k_ ≠ (.slice Ao23 t337.length co23 : Value).ownBlock) (Kd.R_keptB (HO_5.out) hkp (fun k_ hk_ hs_ => by first | exact (hk_) hs_ | (revert hk_ hs_; simp +contextual))) (fun k_ hk_ => hk_.1)); have n1_ := Aside0.mk (Kd.R_reok rfl hy0 (fun k_ e_ => HO_8.out.1 k_ e_)); have n2_ := Aside0.mk (hb); clear HO_5; clear HO_8; clear HB; have HO_5 := n0_; have HO_8 := n1_; have HB := n2_; clear n0_ n1_ n2_; (try clear hb); (try clear hkp); (try clear hy0)) | ((with_reducible refine gate_callee (f := 31) rfl ?_); refine goesL_ (some 64) rfl rfl Try.func31 (by kernel_rfl) rfl #[.slice Ao23 t355.length co23, .int .i64 1] rfl (by (try simp only [List.map_toArray, List.map_cons, List.map_nil]); first | done | (rw [show t355.length = t337.length from (Kd.R_reads' HO_8.out).1.symm] <;> rfl) | rfl | (simp only [List.length_drop, List.length_take]; rfl)) ?_; (with_reducible refine (laws_heldIntS.calls kj39 _ _ t355 1 t356 _ ?side1 ?side2 A47.out).mono ?_); (case side1 => repeat (first | exact (Kd.R_reads' HO_8.out).2.2 | (with_reducible refine Kd.C_alloc ?_ _) | (with_reducible refine Kd.C_drewN ?_ _) | (with_reducible refine Kd.C_drew ?_))); (case side2 => rw [show t355.length = t337.length from (Kd.R_reads' HO_8.out).1.symm]; exact (Kd.R_reads' HO_8.out).2.1); rintro e w' ⟨rfl, ⟨nd, rfl⟩⟩; refine ⟨_, rfl, ?_⟩))
         (try simp only [Act.put, List.setIfInBounds_toArray, List.set_cons_zero, List.set_cons_succ])
         have H := HU48.out
         clear HU48
         by_cases c50 : t356 < 0
         ·rw [if_pos c50] at H
          have c50b0 : decide (t356 < 0) = true := decide_eq_true c50
          clear c50
          (first | rw [c50b0] | rw [c50b1] | (simp only [i64_w, i32_w]; rw [c50b0]) | skip)
          obtain rfl := Option.some.inj H
          go_wp2
          go_ret
          exact ⟨by first | rfl | (simp [errW_none, errW_some] <;> rfl) | (simp [*, errW_none, errW_some] <;> rfl), zB HB.out⟩
         ·rw [if_neg c50] at H
          have c50b0 : decide (t356 < 0) = false := decide_eq_false c50
          clear c50
          (first | rw [c50b0] | rw [c50b1] | (simp only [i64_w, i32_w]; rw [c50b0]) | skip)
          by_cases c51 : t356 = t354
          ·rw [if_pos c51] at H
           have c51b0 : (t356 == t354) = true := beq_iff_eq.mpr c51
           have c51b1 : (t356 != t354) = false := bne_eq_false_iff_eq.mpr c51
           clear c51
           obtain ⟨t357, A52, H⟩ := zb H
           obtain ⟨t360, A53, H⟩ := zb H
           obtain ⟨t363, A54, H⟩ := zb H
           obtain ⟨t366, A55, H⟩ := zb H
           have HU56 := Aside0.mk H
           clear H
           go_upto_if 78 with (first | ((with_reducible refine gate_callee (f := 27) rfl ?_); refine goesL_ (some 71) rfl rfl Try.func27 (by kernel_rfl) rfl #[.slice A0 l0.length c0] rfl (by (try simp only [za, zc, zn]); first | done | rfl) ?_; (with_reducible refine (laws_toIntS.calls kj39 _ _ l0 t357 _ ?side1 ?side2 A52.out).mono ?_); (case side1 => exact zC (Kd.C_below HR0.out HB.out)); (case side2 => exact HC0.out); rintro e w57 ⟨v358, rfl, ho0, hb⟩; refine ⟨_, rfl, ?_⟩; have n0_ := Aside0.mk (Kd.R_elder' (zR HO_5.out) (Kd.R_base ho0) hb); have n1_ := Aside0.mk (Kd.R_elder' (zR HO_8.out) (Kd.R_base ho0) hb); have n2_ := Aside0.mk (Kd.R_lower (Kd.R_new' (Kd.R_new' ho0 (Kd.R_lt (zR HO_5.out))) (Kd.R_lt (zR HO_8.out))) (zS HB.out)); have n3_ := Aside0.mk (below_step (zB HB.out) hb); clear HO_5; clear HO_8; clear HB; have HO_5 := n0_; have HO_8 := n1_; have HO359 := n2_; have HB := n3_; clear n0_ n1_ n2_ n3_; (try clear hb); (try clear hb2); (try clear hk); (try clear hi); (try clear ho0)) | ((with_reducible refine gate_callee (f := 27) rfl ?_); refine goesL_ (some 73) rfl rfl Try.func27 (by kernel_rfl) rfl #[.slice A1 l1.length c1] rfl (by (try simp only [za, zc, zn]); first | done | rfl) ?_; (with_reducible refine (laws_toIntS.calls kj39 _ _ l1 t360 _ ?side1 ?side2 A53.out).mono ?_); (case side1 => exact zC (Kd.C_below HR1.out HB.out)); (case side2 => exact HC1.out); rintro e w58 ⟨v361, rfl, ho0, hb⟩; refine ⟨_, rfl, ?_⟩; have n0_ := Aside0.mk (Kd.R_elder' (zR HO_5.out) (Kd.R_base ho0) hb); have n1_ := Aside0.mk (Kd.R_elder' (zR HO_8.out) (Kd.R_base ho0) hb); have n2_ := Aside0.mk (Kd.R_elder' (zR HO359.out) (Kd.R_base ho0) hb); have n3_ := Aside0.mk (Kd.R_lower (Kd.R_new' (Kd.R_new' (Kd.R_new' ho0 (Kd.R_lt (zR HO_5.out))) (Kd.R_lt (zR HO_8.out))) (Kd.R_lt (zR HO359.out))) (zS HB.out)); have n4_ := Aside0.mk (below_step (zB HB.out) hb); clear HO_5; clear HO_8; clear HO359; clear HB; have HO_5 := n0_; have HO_8 := n1_; have HO359 := n2_; have HO362 := n3_; have HB := n4_; clear n0_ n1_ n2_ n3_ n4_; (try clear hb); (try clear hb2); (try clear hk); (try clear hi); (try clear ho0); obtain ⟨Ao59, co59, eo59⟩ := Kd.R_slice HO359.out; subst eo59; obtain ⟨Ao60, co60, eo60⟩ := Kd.R_slice HO362.out; subst eo60) | ((with_reducible refine gate_callee (f := 35) rfl ?_); refine goesL_ (some 74) rfl rfl Try.func35 (by kernel_rfl) rfl #[.slice Ao59 t357.length co59, .slice Ao60 t360.length co60] rfl (by (try simp only [za, zc, zn]); first | done | rfl) ?_; (with_reducible refine (impl_SumsOf.calls kj39 _ _ t357 _ _ t360 t363 _ ?side1 ?side2 ?side3 ?side4 A54.out).mono ?_); (case side1 => repeat (first | exact (Kd.R_reads' HO359.out).2.2 | (with_reducible refine Kd.C_alloc ?_ _) | (with_reducible refine Kd.C_drewN ?_ _) | (with_reducible refine Kd.C_drew ?_))); (case side2 => exact (Kd.R_reads' HO359.out).2.1); (case side3 => repeat (first | exact (Kd.R_reads' HO362.out).2.2 | (with_reducible refine Kd.C_alloc ?_ _) | (with_reducible refine Kd.C_drewN ?_ _) | (with_reducible refine Kd.C_drew ?_))); (case side4 => exact (Kd.R_reads' HO362.out).2.1); rintro e w61 ⟨v364, rfl, ho0, hb⟩; refine ⟨_, rfl, ?_⟩; have n0_ := Aside0.mk (Kd.R_elder' (zR HO_5.out) (Kd.R_base ho0) hb); have n1_ := Aside0.mk (Kd.R_elder' (zR HO_8.out) (Kd.R_base ho0) hb); have n2_ := Aside0.mk (Kd.R_elder' (zR HO359.out) (Kd.R_base ho0) hb); have n3_ := Aside0.mk (Kd.R_elder' (zR HO362.out) (Kd.R_base ho0) hb); have n4_ := Aside0.mk (Kd.R_lower (Kd.R_new' (Kd.R_new' (Kd.R_new' (Kd.R_new' ho0 (Kd.R_lt (zR HO_5.out))) (Kd.R_lt (zR HO_8.out))) (Kd.R_lt (zR HO359.out))) (Kd.R_lt (zR HO362.out))) (zS HB.out)); have n5_ := Aside0.mk (below_step (zB HB.out) hb); clear HO_5; clear HO_8; clear HO359; clear HO362; clear HB; have HO_5 := n0_; have HO_8 := n1_; have HO359 := n2_; have HO362 := n3_; have HO365 := n4_; have HB := n5_; clear n0_ n1_ n2_ n3_ n4_ n5_; (try clear hb); (try clear hb2); (try clear hk); (try clear hi); (try clear ho0); obtain ⟨Ao62, co62, eo62⟩ := Kd.R_slice HO365.out; subst eo62) | ((with_reducible refine gate_callee (f := 29) rfl ?_); refine goesL_ (some 77) rfl rfl Try.func29 (by kernel_rfl) rfl #[.slice Ao62 t363.length co62, .slice Ao24 t328.length co24] rfl (by (try simp only [za, zc, zn]); first | done | rfl) ?_; (with_reducible refine (laws_eqIntS.calls kj39 _ _ t363 _ _ t328 t366 _ ?side1 ?side2 ?side3 ?side4 A55.out).mono ?_); (case side1 => repeat (first | exact (Kd.R_reads' HO365.out).2.2 | (with_reducible refine Kd.C_alloc ?_ _) | (with_reducible refine Kd.C_drewN ?_ _) | (with_reducible refine Kd.C_drew ?_))); (case side2 => exact (Kd.R_reads' HO365.out).2.1); (case side3 => repeat (first | exact (Kd.R_reads' HO_5.out).2.2 | (with_reducible refine Kd.C_alloc ?_ _) | (with_reducible refine Kd.C_drewN ?_ _) | (with_reducible refine Kd.C_drew ?_))); (case side4 => exact (Kd.R_reads' HO_5.out).2.1); rintro e w' ⟨rfl, ⟨nd, rfl⟩⟩; refine ⟨_, rfl, ?_⟩))
           (try simp only [Act.put, List.setIfInBounds_toArray, List.set_cons_zero, List.set_cons_succ])
           have H := HU56.out
           clear HU56
           by_cases c63 : t366 = true
           ·subst c63
            rw [zT] at H
            obtain ⟨t367, A64, H⟩ := zb H
            have HU65 := Aside0.mk H
            clear H
            go_upto_if 83 with (first | ((with_reducible refine gate_callee (f := 31) rfl ?_); refine goesL_ (some 81) rfl rfl Try.func31 (by kernel_rfl) rfl #[.slice Ao23 t355.length co23, .int .i64 1] rfl (by (try simp only [List.map_toArray, List.map_cons, List.map_nil]); first | done | (rw [show t355.length = t337.length from (Kd.R_reads' HO_8.out).1.symm] <;> rfl) | rfl | (simp only [List.length_drop, List.length_take]; rfl)) ?_; (with_reducible refine (laws_heldIntS.calls kj39 _ _ t355 1 t367 _ ?side1 ?side2 A64.out).mono ?_); (case side1 => repeat (first | exact (Kd.R_reads' HO_8.out).2.2 | (with_reducible refine Kd.C_alloc ?_ _) | (with_reducible refine Kd.C_drewN ?_ _) | (with_reducible refine Kd.C_drew ?_))); (case side2 => rw [show t355.length = t337.length from (Kd.R_reads' HO_8.out).1.symm]; exact (Kd.R_reads' HO_8.out).2.1); rintro e w' ⟨rfl, ⟨nd, rfl⟩⟩; refine ⟨_, rfl, ?_⟩))
            (try simp only [Act.put, List.setIfInBounds_toArray, List.set_cons_zero, List.set_cons_succ])
            have H := HU65.out
            clear HU65
            by_cases c66 : t367 < 0
            ·rw [if_pos c66] at H
             have c66b0 : decide (t367 < 0) = true := decide_eq_true c66
             clear c66
             (first | rw [c66b0] | rw [c66b1] | (simp only [i64_w, i32_w]; rw [c66b0]) | skip)
             obtain rfl := Option.some.inj H
             go_wp2
             go_ret
             exact ⟨by first | rfl | (simp [errW_none, errW_some] <;> rfl) | (simp [*, errW_none, errW_some] <;> rfl), zB HB.out⟩
            ·rw [if_neg c66] at H
             have c66b0 : decide (t367 < 0) = false := decide_eq_false c66
             clear c66
             (first | rw [c66b0] | rw [c66b1] | (simp only [i64_w, i32_w]; rw [c66b0]) | skip)
             by_cases c67 : t367 = t354
             ·rw [if_pos c67] at H
              have c67b0 : (t367 == t354) = true := beq_iff_eq.mpr c67
              have c67b1 : (t367 != t354) = false := bne_eq_false_iff_eq.mpr c67
              clear c67
              obtain rfl := Option.some.inj H
              go_wp2
              go_ret
              exact ⟨by first | rfl | (simp [errW_none, errW_some] <;> rfl) | (simp [*, errW_none, errW_some] <;> rfl), zB HB.out⟩
             ·rw [if_neg c67] at H
              have c67b0 : (t367 == t354) = false := beq_eq_false_iff_ne.mpr c67
              have c67b1 : (t367 != t354) = true := bne_iff_ne.mpr c67
              obtain rfl := Option.some.inj H
              go_wp2
              go_ret
              exact ⟨by first | rfl | (simp [errW_none, errW_some] <;> rfl) | (simp [*, errW_none, errW_some] <;> rfl), zB HB.out⟩
           ·replace c63 := Bool.eq_false_iff.mpr c63
            subst c63
            rw [zF] at H
            obtain rfl := Option.some.inj H
            go_wp2
            go_ret
            exact ⟨by first | rfl | (simp [errW_none, errW_some] <;> rfl) | (simp [*, errW_none, errW_some] <;> rfl), zB HB.out⟩
          ·rw [if_neg c51] at H
           have c51b0 : (t356 == t354) = false := beq_eq_false_iff_ne.mpr c51
           have c51b1 : (t356 != t354) = true := bne_iff_ne.mpr c51
           obtain rfl := Option.some.inj H
           go_wp2
           go_ret
           exact ⟨by first | rfl | (simp [errW_none, errW_some] <;> rfl) | (simp [*, errW_none, errW_some] <;> rfl), zB HB.out⟩
     ·replace c37 := Bool.eq_false_iff.mpr c37
      subst c37
      rw [zF] at H
      obtain rfl := Option.some.inj H
      go_wp2
      go_ret
      exact ⟨by first | rfl | (simp [errW_none, errW_some] <;> rfl) | (simp [*, errW_none, errW_some] <;> rfl), zB HB.out⟩
    ·replace c31 := Bool.eq_false_iff.mpr c31
     subst c31
     rw [zF] at H
     obtain rfl := Option.some.inj H
     go_wp2
     go_ret
     exact ⟨by first | rfl | (simp [errW_none, errW_some] <;> rfl) | (simp [*, errW_none, errW_some] <;> rfl), zB HB.out⟩
   ·replace c25 := Bool.eq_false_iff.mpr c25
    subst c25
    rw [zF] at H
    obtain rfl := Option.some.inj H
    go_wp2
    go_ret
    exact ⟨by first | rfl | (simp [errW_none, errW_some] <;> rfl) | (simp [*, errW_none, errW_some] <;> rfl), zB HB.out⟩

/-- THE ONE PURE STATEMENT of laws_FnExactSumsOf: yours. -/
def laws_FnExactSumsOf.Pure : Prop := ∀ (l0 : List Int) (l1 : List Int), l0.length ≤ maxLen → l0.length * 8 ≤ 140737488351232 → (∀ x ∈ l0, (Lit.int .i64 x).wf = true) → l1.length ≤ maxLen → l1.length * 8 ≤ 140737488351232 → (∀ x ∈ l1, (Lit.int .i64 x).wf = true) → ∃ k, laws_FnExactSumsOf.f k l0 l1 = some true
theorem laws_FnExactSumsOf.walk (P : laws_FnExactSumsOf.Pure) (a0 : Option Addr) (len0 cap0 : Nat) (z0 : List Int) (a1 : Option Addr) (len1 cap1 : Nat) (z1 : List Int) (w : World) (w0 : (a0 = none ∧ len0 = 0 ∧ cap0 = 0 ∧ z0 = []) ∨ ∃ x, a0 = some x ∧ len0 ≤ cap0 ∧ cap0 ≤ maxLen ∧ z0.length = cap0 ∧ (∀ i, i < z0.length → w.cell? (x.add i) = some (.int .i64 (z0.getD i 0))) ∧ ∀ n ∈ z0, (Lit.int .i64 n).wf = true) (y0 : len0 * 8 ≤ 140737488351232) (w1 : (a1 = none ∧ len1 = 0 ∧ cap1 = 0 ∧ z1 = []) ∨ ∃ x, a1 = some x ∧ len1 ≤ cap1 ∧ cap1 ≤ maxLen ∧ z1.length = cap1 ∧ (∀ i, i < z1.length → w.cell? (x.add i) = some (.int .i64 (z1.getD i 0))) ∧ ∀ n ∈ z1, (Lit.int .i64 n).wf = true) (y1 : len1 * 8 ≤ 140737488351232) :
  Calls Try.prog 7 #[.slice a0 len0 cap0, .slice a1 len1 cap1] w fun e w' => e = .returned (.bool true) ∧ Below w.heap.size w w' := by
 obtain ⟨l0, rfl, hr0, hm0, hw0, hc0⟩ := ReadsInt.ofRowC w0
 obtain ⟨l1, rfl, hr1, hm1, hw1, hc1⟩ := ReadsInt.ofRowC w1
 obtain ⟨k, h⟩ := P l0 l1 hm0 y0 hw0 hm1 y1 hw1
 refine (laws_FnExactSumsOf.calls k _ _ l0 _ _ l1 true w (Kd.C_of_reads (d := (0 : Int)) (h1 := fun _ => rfl) hr0) hc0 (Kd.C_of_reads (d := (0 : Int)) (h1 := fun _ => rfl) hr1) hc1 h).mono ?_
 rintro e w' ⟨rfl, hd⟩
 exact ⟨rfl, hd⟩

end Go.Proofs.Ytbagfnppeidonaa.PFnExactSumsOf
