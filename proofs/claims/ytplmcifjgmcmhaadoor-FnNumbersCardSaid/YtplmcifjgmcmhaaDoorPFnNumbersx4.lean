-- Written by a program of this session (a turned copy of the kit's print; see NOTES.md).
import Derived.Test.YtplmcifjgmcmhaaDoorPFnNumbersx0
import Derived.Test.YtplmcifjgmcmhaaDoorPFnNumbersx1
import Derived.Test.YtplmcifjgmcmhaaDoorPFnNumbersx2
import Derived.Test.YtplmcifjgmcmhaaDoorPFnNumbersx3
namespace Go.Proofs.YtplmcifjgmcmhaaDoor.PFnNumbers
open Go.RowKit Go.Proofs.YtplmcifjgmcmhaaDoorW.PrintWords Go.Proofs.YtplmcifjgmcmhaaDoorW.PrintLast Go.Proofs.YtplmcifjgmcmhaaDoorW.PrintMore
attribute [local go_sem] max2_int min2_int max_two min_two max_three min_three max_four min_four   -- for this text's walks alone
set_option linter.unusedVariables false
set_option linter.unusedSimpArgs false

/-! ### laws_FnNumbers: function 7 -/
def laws_FnNumbers.j0 : Nat → List Int → Bool → Option (Bool)
 | 0, _, _ => none
 | k + 1, x0, x50 => if x50 = true then (some false) else ((spec_DrawParseNumber.f k x0).bind fun t215 => ((impl_ParseNumber.f k t215).bind fun bt216 => ((spec_ParseNumber.f k t215).bind fun bt218 => (if (bt216.2 == bt218.2) = true then (if bt216.2 = true then ((impl_FormatInt.f bt216.1).bind fun t220 => (if t220.toList = t215.toList then (some (decide (bt216.1 ≥ 0))) else (some false))) else (some true)) else (some false)))))
def laws_FnNumbers.f (k : Nat) (l0 : List Int) : Option (Bool) := (laws_big.f l0).bind fun t209 => (if t209 = true then (some true) else ((spec_DrawFormatInt.f k l0).bind fun t210 => ((impl_FormatInt.f t210).bind fun t211 => ((impl_ParseInt.f k t211).bind fun bt212 => ((spec_FormatInt.f k t210).bind fun t214 => (if t211.toList = t214.toList then (if (t211.size : Int) ≤ 12 then (if (bt212.2 != true) = true then (laws_FnNumbers.j0 k l0 true) else (if bt212.2 = true then (laws_FnNumbers.j0 k l0 (bt212.1 != t210)) else (laws_FnNumbers.j0 k l0 false))) else (if t210 < 0 then (if (bt212.2 != (decide ((t211.size : Int) ≤ 13))) = true then (laws_FnNumbers.j0 k l0 true) else (if bt212.2 = true then (laws_FnNumbers.j0 k l0 (bt212.1 != t210)) else (laws_FnNumbers.j0 k l0 false))) else (if (bt212.2 != false) = true then (laws_FnNumbers.j0 k l0 true) else (if bt212.2 = true then (laws_FnNumbers.j0 k l0 (bt212.1 != t210)) else (laws_FnNumbers.j0 k l0 false))))) else (laws_FnNumbers.j0 k l0 true)))))))
theorem laws_FnNumbers.mono_l : ∀ k, (∀ y0 y1, LeO (laws_FnNumbers.j0 k y0 y1) (laws_FnNumbers.j0 (k + 1) y0 y1))
 | 0 => fun _ _ r h => by simp [laws_FnNumbers.j0] at h
 | k + 1 => by
  have ih0 := laws_FnNumbers.mono_l k
  ·intro y0 y1
   unfold laws_FnNumbers.j0
   repeat' first
   | (with_reducible exact ih0 _ _)
   | (with_reducible exact impl_ParseInt.mono _ _)
   | (with_reducible exact impl_ParseNumber.mono _ _)
   | (with_reducible exact spec_DrawFormatInt.mono _ _)
   | (with_reducible exact spec_DrawParseNumber.mono _ _)
   | (with_reducible exact spec_FormatInt.mono _ _)
   | (with_reducible exact spec_ParseNumber.mono _ _)
   | (with_reducible exact LeO.refl _)
   | (with_reducible exact LeO.none _)
   | (with_reducible refine LeO.ite ?_ ?_)
   | (with_reducible refine LeO.bind ?_ (fun _ => ?_))
   | exact ih0 _ _
   | exact impl_ParseInt.mono _ _
   | exact impl_ParseNumber.mono _ _
   | exact spec_DrawFormatInt.mono _ _
   | exact spec_DrawParseNumber.mono _ _
   | exact spec_FormatInt.mono _ _
   | exact spec_ParseNumber.mono _ _
   | exact LeO.none _
   | refine LeO.ite ?_ ?_
   | refine LeO.bind ?_ (fun _ => ?_)
theorem laws_FnNumbers.mono : ∀ a0 k, LeO (laws_FnNumbers.f k a0) (laws_FnNumbers.f (k + 1) a0) := by
 intro a0 k
 have ih0 := laws_FnNumbers.mono_l k
 unfold laws_FnNumbers.f
 repeat' first
   | (with_reducible exact ih0 _ _)
   | (with_reducible exact impl_ParseInt.mono _ _)
   | (with_reducible exact impl_ParseNumber.mono _ _)
   | (with_reducible exact spec_DrawFormatInt.mono _ _)
   | (with_reducible exact spec_DrawParseNumber.mono _ _)
   | (with_reducible exact spec_FormatInt.mono _ _)
   | (with_reducible exact spec_ParseNumber.mono _ _)
   | (with_reducible exact LeO.refl _)
   | (with_reducible exact LeO.none _)
   | (with_reducible refine LeO.ite ?_ ?_)
   | (with_reducible refine LeO.bind ?_ (fun _ => ?_))
   | exact ih0 _ _
   | exact impl_ParseInt.mono _ _
   | exact impl_ParseNumber.mono _ _
   | exact spec_DrawFormatInt.mono _ _
   | exact spec_DrawParseNumber.mono _ _
   | exact spec_FormatInt.mono _ _
   | exact spec_ParseNumber.mono _ _
   | exact LeO.none _
   | refine LeO.ite ?_ ?_
   | refine LeO.bind ?_ (fun _ => ?_)
theorem laws_FnNumbers.no_j0 (k : Nat) (y0 : List Int) (r : Bool) (h : laws_FnNumbers.j0 k y0 true = some r) : r = false := by
 cases k with
 | zero => simp [laws_FnNumbers.j0] at h
 | succ k => rw [laws_FnNumbers.j0, if_pos rfl] at h; exact (Option.some.inj h).symm
set_option maxHeartbeats 8000000 in
set_option maxRecDepth 100000 in
theorem laws_FnNumbers.calls (k : Nat) (A0 : Option Addr) (c0 : Nat) (l0 : List Int) (r : Bool) (w : World) (hr0 : Kd.C (Kd.int .u8) w A0 l0.length l0) (hc0 : l0.length ≤ c0) (h : laws_FnNumbers.f k l0 = some r) (hr : r = true) (hT : TabW w) :
  Calls Tryd.prog 7 #[.slice A0 l0.length c0] w fun e w' => e = .returned (.bool r) ∧ Below w.heap.size w w' := by
 have HTAB := Aside0.mk hT
 clear hT
 have HRT := Aside0.mk hr
 clear hr
 have HR0 := Aside0.mk hr0
 have HC0 := Aside0.mk hc0
 clear hr0 hc0
 have HB := Aside0.mk (Below.refl w.heap.size w)
 have H : ((laws_big.f l0).bind fun t209 => (if t209 = true then (some true) else ((spec_DrawFormatInt.f k l0).bind fun t210 => ((impl_FormatInt.f t210).bind fun t211 => ((impl_ParseInt.f k t211).bind fun bt212 => ((spec_FormatInt.f k t210).bind fun t214 => (if t211.toList = t214.toList then (if (t211.size : Int) ≤ 12 then (if (bt212.2 != true) = true then (laws_FnNumbers.j0 k l0 true) else (if bt212.2 = true then (laws_FnNumbers.j0 k l0 (bt212.1 != t210)) else (laws_FnNumbers.j0 k l0 false))) else (if t210 < 0 then (if (bt212.2 != (decide ((t211.size : Int) ≤ 13))) = true then (laws_FnNumbers.j0 k l0 true) else (if bt212.2 = true then (laws_FnNumbers.j0 k l0 (bt212.1 != t210)) else (laws_FnNumbers.j0 k l0 false))) else (if (bt212.2 != false) = true then (laws_FnNumbers.j0 k l0 true) else (if bt212.2 = true then (laws_FnNumbers.j0 k l0 (bt212.1 != t210)) else (laws_FnNumbers.j0 k l0 false))))) else (laws_FnNumbers.j0 k l0 true)))))))) = some r := h
 clear h
 replace H := Option.bind_eq_some_iff.mp H
 obtain ⟨t209, A20, H⟩ := H
 replace H : (if t209 = true then (some true) else ((spec_DrawFormatInt.f k l0).bind fun t210 => ((impl_FormatInt.f t210).bind fun t211 => ((impl_ParseInt.f k t211).bind fun bt212 => ((spec_FormatInt.f k t210).bind fun t214 => (if t211.toList = t214.toList then (if (t211.size : Int) ≤ 12 then (if (bt212.2 != true) = true then (laws_FnNumbers.j0 k l0 true) else (if bt212.2 = true then (laws_FnNumbers.j0 k l0 (bt212.1 != t210)) else (laws_FnNumbers.j0 k l0 false))) else (if t210 < 0 then (if (bt212.2 != (decide ((t211.size : Int) ≤ 13))) = true then (laws_FnNumbers.j0 k l0 true) else (if bt212.2 = true then (laws_FnNumbers.j0 k l0 (bt212.1 != t210)) else (laws_FnNumbers.j0 k l0 false))) else (if (bt212.2 != false) = true then (laws_FnNumbers.j0 k l0 true) else (if bt212.2 = true then (laws_FnNumbers.j0 k l0 (bt212.1 != t210)) else (laws_FnNumbers.j0 k l0 false))))) else (laws_FnNumbers.j0 k l0 true))))))) = some r := H
 have A2 := Aside0.mk A20
 clear A20
 have HU3 := Aside0.mk H
 clear H
 go_enter Tryd.func7, Tryd.ntmps7
 go_upto_if 13 with (first | ((with_reducible refine gate_callee (f := 23) rfl ?_); refine goesL_ (some 13) rfl rfl Tryd.func23 (by kernel_rfl) rfl #[.slice A0 l0.length c0] rfl (by (try simp only [List.map_toArray, List.map_cons, List.map_nil]); first | done | rfl | (simp only [List.length_drop, List.length_take]; rfl)) ?_; (with_reducible refine (laws_big.calls _ _ l0 t209 _ ?side1 ?side2 A2.out).mono ?_); (case side1 => repeat (first | exact HR0.out | (with_reducible refine Kd.C_alloc ?_ _) | (with_reducible refine Kd.C_drewN ?_ _) | (with_reducible refine Kd.C_drew ?_))); (case side2 => exact HC0.out); rintro e w' ⟨rfl, ⟨nd, rfl⟩⟩; refine ⟨_, rfl, ?_⟩))
 (try simp only [Act.put, List.setIfInBounds_toArray, List.set_cons_zero, List.set_cons_succ])
 have H := HU3.out
 clear HU3
 by_cases c4 : t209 = true
 ·subst c4
  have H1 : (some true) = some r := by rw [if_pos rfl] at H; exact H
  clear H
  have H := H1
  clear H1
  obtain rfl := Option.some.inj H
  go_wp2
  go_ret
  exact ⟨by first | rfl | (simp [errW_none, errW_some] <;> rfl) | (simp [*, errW_none, errW_some] <;> rfl), by repeat (first | (with_reducible first | exact HB.out | apply below_alloc | apply pw_below_drewN | apply below_drew1) | exact HB.out)⟩
 ·replace c4 := Bool.eq_false_iff.mpr c4
  subst c4
  have H1 : ((spec_DrawFormatInt.f k l0).bind fun t210 => ((impl_FormatInt.f t210).bind fun t211 => ((impl_ParseInt.f k t211).bind fun bt212 => ((spec_FormatInt.f k t210).bind fun t214 => (if t211.toList = t214.toList then (if (t211.size : Int) ≤ 12 then (if (bt212.2 != true) = true then (laws_FnNumbers.j0 k l0 true) else (if bt212.2 = true then (laws_FnNumbers.j0 k l0 (bt212.1 != t210)) else (laws_FnNumbers.j0 k l0 false))) else (if t210 < 0 then (if (bt212.2 != (decide ((t211.size : Int) ≤ 13))) = true then (laws_FnNumbers.j0 k l0 true) else (if bt212.2 = true then (laws_FnNumbers.j0 k l0 (bt212.1 != t210)) else (laws_FnNumbers.j0 k l0 false))) else (if (bt212.2 != false) = true then (laws_FnNumbers.j0 k l0 true) else (if bt212.2 = true then (laws_FnNumbers.j0 k l0 (bt212.1 != t210)) else (laws_FnNumbers.j0 k l0 false))))) else (laws_FnNumbers.j0 k l0 true)))))) = some r := by rw [if_neg (show ¬ (false = true) by decide)] at H; exact H
  clear H
  have H := H1
  clear H1
  replace H := Option.bind_eq_some_iff.mp H
  obtain ⟨t210, A50, H⟩ := H
  replace H : ((impl_FormatInt.f t210).bind fun t211 => ((impl_ParseInt.f k t211).bind fun bt212 => ((spec_FormatInt.f k t210).bind fun t214 => (if t211.toList = t214.toList then (if (t211.size : Int) ≤ 12 then (if (bt212.2 != true) = true then (laws_FnNumbers.j0 k l0 true) else (if bt212.2 = true then (laws_FnNumbers.j0 k l0 (bt212.1 != t210)) else (laws_FnNumbers.j0 k l0 false))) else (if t210 < 0 then (if (bt212.2 != (decide ((t211.size : Int) ≤ 13))) = true then (laws_FnNumbers.j0 k l0 true) else (if bt212.2 = true then (laws_FnNumbers.j0 k l0 (bt212.1 != t210)) else (laws_FnNumbers.j0 k l0 false))) else (if (bt212.2 != false) = true then (laws_FnNumbers.j0 k l0 true) else (if bt212.2 = true then (laws_FnNumbers.j0 k l0 (bt212.1 != t210)) else (laws_FnNumbers.j0 k l0 false))))) else (laws_FnNumbers.j0 k l0 true))))) = some r := H
  have A5 := Aside0.mk A50
  clear A50
  replace H := Option.bind_eq_some_iff.mp H
  obtain ⟨t211, A60, H⟩ := H
  replace H : ((impl_ParseInt.f k t211).bind fun bt212 => ((spec_FormatInt.f k t210).bind fun t214 => (if t211.toList = t214.toList then (if (t211.size : Int) ≤ 12 then (if (bt212.2 != true) = true then (laws_FnNumbers.j0 k l0 true) else (if bt212.2 = true then (laws_FnNumbers.j0 k l0 (bt212.1 != t210)) else (laws_FnNumbers.j0 k l0 false))) else (if t210 < 0 then (if (bt212.2 != (decide ((t211.size : Int) ≤ 13))) = true then (laws_FnNumbers.j0 k l0 true) else (if bt212.2 = true then (laws_FnNumbers.j0 k l0 (bt212.1 != t210)) else (laws_FnNumbers.j0 k l0 false))) else (if (bt212.2 != false) = true then (laws_FnNumbers.j0 k l0 true) else (if bt212.2 = true then (laws_FnNumbers.j0 k l0 (bt212.1 != t210)) else (laws_FnNumbers.j0 k l0 false))))) else (laws_FnNumbers.j0 k l0 true)))) = some r := H
  have A6 := Aside0.mk A60
  clear A60
  replace H := Option.bind_eq_some_iff.mp H
  obtain ⟨⟨t212, t213⟩, A70, H⟩ := H
  replace H : ((spec_FormatInt.f k t210).bind fun t214 => (if t211.toList = t214.toList then (if (t211.size : Int) ≤ 12 then (if (t213 != true) = true then (laws_FnNumbers.j0 k l0 true) else (if t213 = true then (laws_FnNumbers.j0 k l0 (t212 != t210)) else (laws_FnNumbers.j0 k l0 false))) else (if t210 < 0 then (if (t213 != (decide ((t211.size : Int) ≤ 13))) = true then (laws_FnNumbers.j0 k l0 true) else (if t213 = true then (laws_FnNumbers.j0 k l0 (t212 != t210)) else (laws_FnNumbers.j0 k l0 false))) else (if (t213 != false) = true then (laws_FnNumbers.j0 k l0 true) else (if t213 = true then (laws_FnNumbers.j0 k l0 (t212 != t210)) else (laws_FnNumbers.j0 k l0 false))))) else (laws_FnNumbers.j0 k l0 true))) = some r := H
  have A7 := Aside0.mk A70
  clear A70
  have HC8 := Aside0.mk H
  clear H
  go_upto_region 6 with (first | ((with_reducible refine gate_callee (f := 24) rfl ?_); refine goesL_ (some 15) rfl rfl Tryd.func24 (by kernel_rfl) rfl #[.slice A0 l0.length c0] rfl (by (try simp only [List.map_toArray, List.map_cons, List.map_nil]); first | done | rfl | (simp only [List.length_drop, List.length_take]; rfl)) ?_; (with_reducible refine (spec_DrawFormatInt.calls k _ _ l0 t210 _ ?side1 ?side2 A5.out).mono ?_); (case side1 => repeat (first | exact (Kd.C_below HR0.out HB.out) | (with_reducible refine Kd.C_alloc ?_ _) | (with_reducible refine Kd.C_drewN ?_ _) | (with_reducible refine Kd.C_drew ?_))); (case side2 => exact HC0.out); rintro e w9 ⟨rfl, hb⟩; refine ⟨_, rfl, ?_⟩; have n0_ := Aside0.mk (below_step (by repeat (first | (with_reducible first | exact HB.out | apply below_alloc | apply pw_below_drewN | apply below_drew1) | exact HB.out)) hb); clear HB; have HB := n0_; clear n0_; (try clear hb); (try clear hb2); (try clear hk); (try clear hi)) | ((with_reducible refine gate_callee (f := 14) rfl ?_); refine goesL_ (some 17) rfl rfl Tryd.func14 (by kernel_rfl) rfl #[.int .i64 t210] rfl (by (try simp only [List.map_toArray, List.map_cons, List.map_nil]); first | done | rfl | (simp only [List.length_drop, List.length_take]; rfl)) ?_; (with_reducible refine (impl_FormatInt.calls t210 t211 _ A6.out ?sideT).mono ?_); (case sideT => exact HTAB.out.zb (by repeat (first | (with_reducible first | exact HB.out | apply below_alloc | apply pw_below_drewN | apply below_drew1) | exact HB.out))); rintro e w10 ⟨rfl, hb⟩; refine ⟨_, rfl, ?_⟩; have n0_ := Aside0.mk (below_step (by repeat (first | (with_reducible first | exact HB.out | apply below_alloc | apply pw_below_drewN | apply below_drew1) | exact HB.out)) hb); clear HB; have HB := n0_; clear n0_; (try clear hb); (try clear hb2); (try clear hk); (try clear hi)) | ((with_reducible refine gate_callee (f := 16) rfl ?_); refine goesL_ (some 20) rfl rfl Tryd.func16 (by kernel_rfl) rfl #[.string t211] rfl (by (try simp only [List.map_toArray, List.map_cons, List.map_nil]); first | done | rfl | (simp only [List.length_drop, List.length_take]; rfl)) ?_; (with_reducible refine (impl_ParseInt.calls k t211 t212 t213 _ A7.out ?sideT).mono ?_); (case sideT => exact HTAB.out.zb (by repeat (first | (with_reducible first | exact HB.out | apply below_alloc | apply pw_below_drewN | apply below_drew1) | exact HB.out))); rintro e w11 ⟨rfl, hb⟩; refine ⟨_, rfl, ?_⟩; have n0_ := Aside0.mk (below_step (by repeat (first | (with_reducible first | exact HB.out | apply below_alloc | apply pw_below_drewN | apply below_drew1) | exact HB.out)) hb); clear HB; have HB := n0_; clear n0_; (try clear hb); (try clear hb2); (try clear hk); (try clear hi)))
  (try simp only [Act.put, List.setIfInBounds_toArray, List.set_cons_zero, List.set_cons_succ])
  go_cut [50] (fun v50 wc => ∃ (kq : Nat) (x50_7 : Bool), v50 = .bool x50_7 ∧ Aside0 (laws_FnNumbers.j0 kq l0 x50_7 = some r) ∧ Aside0 (kq ≤ k) ∧ Aside0 (Below w.heap.size w wc))
  case first =>
   have H := HC8.out
   clear HC8
   replace H := Option.bind_eq_some_iff.mp H
   obtain ⟨t214, A120, H⟩ := H
   replace H : (if t211.toList = t214.toList then (if (t211.size : Int) ≤ 12 then (if (t213 != true) = true then (laws_FnNumbers.j0 k l0 true) else (if t213 = true then (laws_FnNumbers.j0 k l0 (t212 != t210)) else (laws_FnNumbers.j0 k l0 false))) else (if t210 < 0 then (if (t213 != (decide ((t211.size : Int) ≤ 13))) = true then (laws_FnNumbers.j0 k l0 true) else (if t213 = true then (laws_FnNumbers.j0 k l0 (t212 != t210)) else (laws_FnNumbers.j0 k l0 false))) else (if (t213 != false) = true then (laws_FnNumbers.j0 k l0 true) else (if t213 = true then (laws_FnNumbers.j0 k l0 (t212 != t210)) else (laws_FnNumbers.j0 k l0 false))))) else (laws_FnNumbers.j0 k l0 true)) = some r := H
   have A12 := Aside0.mk A120
   clear A120
   by_cases c13 : t211.toList = t214.toList
   ·rw [if_pos c13] at H
    have c13b0 : (t211.toList == t214.toList) = true := beq_iff_eq.mpr c13
    have c13b1 : (t211.toList != t214.toList) = false := bne_eq_false_iff_eq.mpr c13
    clear c13
    (first | rw [c13b0] | rw [c13b1] | (simp only [i64_w, i32_w]; rw [c13b0]) | (rw [c13b2]; simp only [Bool.not_false, Bool.not_true]) | skip)
    by_cases c14 : (t211.size : Int) ≤ 12
    ·rw [if_pos c14] at H
     have c14b0 : decide ((t211.size : Int) ≤ 12) = true := decide_eq_true c14
     have c14b1 : decide (t211.size ≤ 12) = true := decide_eq_true (by omega)
     clear c14
     by_cases c15 : (t213 != true) = true
     ·rw [if_pos c15] at H
      exact absurd (HRT.out.symm.trans (laws_FnNumbers.no_j0 _ _ _ H)) (by decide)
     ·rw [if_neg c15] at H
      have c15b0 : (t213 != true) = false := by simpa using c15
      (try (have c15b1 : decide (t213 = true) = true := by simpa using c15))
      (try (have c15b2 : (t213 == true) = true := by simpa using c15))
      clear c15
      by_cases c17 : t213 = true
      ·subst c17
       have H1 : (laws_FnNumbers.j0 k l0 (t212 != t210)) = some r := by rw [if_pos rfl] at H; exact H
       clear H
       have H := H1
       clear H1
       have H' := Aside0.mk H
       clear H
       go_wp2_with (first | ((with_reducible refine gate_callee (f := 13) rfl ?_); refine goesL_ (some 25) rfl rfl Tryd.func13 (by kernel_rfl) rfl #[.int .i64 t210] rfl (by (try simp only [List.map_toArray, List.map_cons, List.map_nil]); first | done | rfl | (simp only [List.length_drop, List.length_take]; rfl)) ?_; (with_reducible refine (spec_FormatInt.calls k t210 t214 _ A12.out).mono ?_); rintro e w18 ⟨rfl, hb⟩; refine ⟨_, rfl, ?_⟩; have n0_ := Aside0.mk (below_step (by repeat (first | (with_reducible first | exact HB.out | apply below_alloc | apply pw_below_drewN | apply below_drew1) | exact HB.out)) hb); clear HB; have HB := n0_; clear n0_; (try clear hb); (try clear hb2); (try clear hk); (try clear hi)))
       go_meet
       case rel => exact ⟨_, ((t212 != t210)), (by first | rfl | (simp; done) | (simp [*]; done)), H', ⟨by first | omega | exact Nat.le_refl _⟩, ⟨by repeat (first | (with_reducible first | exact HB.out | apply below_alloc | apply pw_below_drewN | apply below_drew1) | exact HB.out)⟩⟩
      ·replace c17 := Bool.eq_false_iff.mpr c17
       subst c17
       have H1 : (laws_FnNumbers.j0 k l0 false) = some r := by rw [if_neg (show ¬ (false = true) by decide)] at H; exact H
       clear H
       have H := H1
       clear H1
       have H' := Aside0.mk H
       clear H
       go_wp2_with (first | ((with_reducible refine gate_callee (f := 13) rfl ?_); refine goesL_ (some 25) rfl rfl Tryd.func13 (by kernel_rfl) rfl #[.int .i64 t210] rfl (by (try simp only [List.map_toArray, List.map_cons, List.map_nil]); first | done | rfl | (simp only [List.length_drop, List.length_take]; rfl)) ?_; (with_reducible refine (spec_FormatInt.calls k t210 t214 _ A12.out).mono ?_); rintro e w19 ⟨rfl, hb⟩; refine ⟨_, rfl, ?_⟩; have n0_ := Aside0.mk (below_step (by repeat (first | (with_reducible first | exact HB.out | apply below_alloc | apply pw_below_drewN | apply below_drew1) | exact HB.out)) hb); clear HB; have HB := n0_; clear n0_; (try clear hb); (try clear hb2); (try clear hk); (try clear hi)))
       go_meet
       case rel => exact ⟨_, (false), (by first | rfl | (simp; done) | (simp [*]; done)), H', ⟨by first | omega | exact Nat.le_refl _⟩, ⟨by repeat (first | (with_reducible first | exact HB.out | apply below_alloc | apply pw_below_drewN | apply below_drew1) | exact HB.out)⟩⟩
    ·rw [if_neg c14] at H
     have c14b0 : decide ((t211.size : Int) ≤ 12) = false := decide_eq_false c14
     have c14b1 : decide (t211.size ≤ 12) = false := decide_eq_false (by omega)
     clear c14
     by_cases c20 : t210 < 0
     ·rw [if_pos c20] at H
      have c20b0 : decide (t210 < 0) = true := decide_eq_true c20
      clear c20
      by_cases c21 : (t213 != (decide ((t211.size : Int) ≤ 13))) = true
      ·rw [if_pos c21] at H
       exact absurd (HRT.out.symm.trans (laws_FnNumbers.no_j0 _ _ _ H)) (by decide)
      ·rw [if_neg c21] at H
       have c21b0 : (t213 != (decide ((t211.size : Int) ≤ 13))) = false := by simpa using c21
       (try (have c21b1 : decide (t213 = (decide ((t211.size : Int) ≤ 13))) = true := by simpa using c21))
       (try (have c21b2 : (t213 == (decide ((t211.size : Int) ≤ 13))) = true := by simpa using c21))
       clear c21
       by_cases c23 : t213 = true
       ·subst c23
        have H1 : (laws_FnNumbers.j0 k l0 (t212 != t210)) = some r := by rw [if_pos rfl] at H; exact H
        clear H
        have H := H1
        clear H1
        have H' := Aside0.mk H
        clear H
        go_wp2_with (first | ((with_reducible refine gate_callee (f := 13) rfl ?_); refine goesL_ (some 25) rfl rfl Tryd.func13 (by kernel_rfl) rfl #[.int .i64 t210] rfl (by (try simp only [List.map_toArray, List.map_cons, List.map_nil]); first | done | rfl | (simp only [List.length_drop, List.length_take]; rfl)) ?_; (with_reducible refine (spec_FormatInt.calls k t210 t214 _ A12.out).mono ?_); rintro e w24 ⟨rfl, hb⟩; refine ⟨_, rfl, ?_⟩; have n0_ := Aside0.mk (below_step (by repeat (first | (with_reducible first | exact HB.out | apply below_alloc | apply pw_below_drewN | apply below_drew1) | exact HB.out)) hb); clear HB; have HB := n0_; clear n0_; (try clear hb); (try clear hb2); (try clear hk); (try clear hi)))
        go_meet
        case rel => exact ⟨_, ((t212 != t210)), (by first | rfl | (simp; done) | (simp [*]; done)), H', ⟨by first | omega | exact Nat.le_refl _⟩, ⟨by repeat (first | (with_reducible first | exact HB.out | apply below_alloc | apply pw_below_drewN | apply below_drew1) | exact HB.out)⟩⟩
       ·replace c23 := Bool.eq_false_iff.mpr c23
        subst c23
        have H1 : (laws_FnNumbers.j0 k l0 false) = some r := by rw [if_neg (show ¬ (false = true) by decide)] at H; exact H
        clear H
        have H := H1
        clear H1
        have H' := Aside0.mk H
        clear H
        go_wp2_with (first | ((with_reducible refine gate_callee (f := 13) rfl ?_); refine goesL_ (some 25) rfl rfl Tryd.func13 (by kernel_rfl) rfl #[.int .i64 t210] rfl (by (try simp only [List.map_toArray, List.map_cons, List.map_nil]); first | done | rfl | (simp only [List.length_drop, List.length_take]; rfl)) ?_; (with_reducible refine (spec_FormatInt.calls k t210 t214 _ A12.out).mono ?_); rintro e w25 ⟨rfl, hb⟩; refine ⟨_, rfl, ?_⟩; have n0_ := Aside0.mk (below_step (by repeat (first | (with_reducible first | exact HB.out | apply below_alloc | apply pw_below_drewN | apply below_drew1) | exact HB.out)) hb); clear HB; have HB := n0_; clear n0_; (try clear hb); (try clear hb2); (try clear hk); (try clear hi)))
        go_meet
        case rel => exact ⟨_, (false), (by first | rfl | (simp; done) | (simp [*]; done)), H', ⟨by first | omega | exact Nat.le_refl _⟩, ⟨by repeat (first | (with_reducible first | exact HB.out | apply below_alloc | apply pw_below_drewN | apply below_drew1) | exact HB.out)⟩⟩
     ·rw [if_neg c20] at H
      have c20b0 : decide (t210 < 0) = false := decide_eq_false c20
      clear c20
      by_cases c26 : (t213 != false) = true
      ·rw [if_pos c26] at H
       exact absurd (HRT.out.symm.trans (laws_FnNumbers.no_j0 _ _ _ H)) (by decide)
      ·rw [if_neg c26] at H
       have c26b0 : (t213 != false) = false := by simpa using c26
       (try (have c26b1 : decide (t213 = false) = true := by simpa using c26))
       (try (have c26b2 : (t213 == false) = true := by simpa using c26))
       clear c26
       by_cases c28 : t213 = true
       ·subst c28
        have H1 : (laws_FnNumbers.j0 k l0 (t212 != t210)) = some r := by rw [if_pos rfl] at H; exact H
        clear H
        have H := H1
        clear H1
        have H' := Aside0.mk H
        clear H
        go_wp2_with (first | ((with_reducible refine gate_callee (f := 13) rfl ?_); refine goesL_ (some 25) rfl rfl Tryd.func13 (by kernel_rfl) rfl #[.int .i64 t210] rfl (by (try simp only [List.map_toArray, List.map_cons, List.map_nil]); first | done | rfl | (simp only [List.length_drop, List.length_take]; rfl)) ?_; (with_reducible refine (spec_FormatInt.calls k t210 t214 _ A12.out).mono ?_); rintro e w29 ⟨rfl, hb⟩; refine ⟨_, rfl, ?_⟩; have n0_ := Aside0.mk (below_step (by repeat (first | (with_reducible first | exact HB.out | apply below_alloc | apply pw_below_drewN | apply below_drew1) | exact HB.out)) hb); clear HB; have HB := n0_; clear n0_; (try clear hb); (try clear hb2); (try clear hk); (try clear hi)))
        go_meet
        case rel => exact ⟨_, ((t212 != t210)), (by first | rfl | (simp; done) | (simp [*]; done)), H', ⟨by first | omega | exact Nat.le_refl _⟩, ⟨by repeat (first | (with_reducible first | exact HB.out | apply below_alloc | apply pw_below_drewN | apply below_drew1) | exact HB.out)⟩⟩
       ·replace c28 := Bool.eq_false_iff.mpr c28
        subst c28
        have H1 : (laws_FnNumbers.j0 k l0 false) = some r := by rw [if_neg (show ¬ (false = true) by decide)] at H; exact H
        clear H
        have H := H1
        clear H1
        have H' := Aside0.mk H
        clear H
        go_wp2_with (first | ((with_reducible refine gate_callee (f := 13) rfl ?_); refine goesL_ (some 25) rfl rfl Tryd.func13 (by kernel_rfl) rfl #[.int .i64 t210] rfl (by (try simp only [List.map_toArray, List.map_cons, List.map_nil]); first | done | rfl | (simp only [List.length_drop, List.length_take]; rfl)) ?_; (with_reducible refine (spec_FormatInt.calls k t210 t214 _ A12.out).mono ?_); rintro e w30 ⟨rfl, hb⟩; refine ⟨_, rfl, ?_⟩; have n0_ := Aside0.mk (below_step (by repeat (first | (with_reducible first | exact HB.out | apply below_alloc | apply pw_below_drewN | apply below_drew1) | exact HB.out)) hb); clear HB; have HB := n0_; clear n0_; (try clear hb); (try clear hb2); (try clear hk); (try clear hi)))
        go_meet
        case rel => exact ⟨_, (false), (by first | rfl | (simp; done) | (simp [*]; done)), H', ⟨by first | omega | exact Nat.le_refl _⟩, ⟨by repeat (first | (with_reducible first | exact HB.out | apply below_alloc | apply pw_below_drewN | apply below_drew1) | exact HB.out)⟩⟩
   ·rw [if_neg c13] at H
    exact absurd (HRT.out.symm.trans (laws_FnNumbers.no_j0 _ _ _ H)) (by decide)
  case rest =>
   clear HC8
   try clear c1
   try clear c2
   try clear p2
   try clear c4
   try clear c7
   try clear c13
   try clear c13b0
   try clear c13b1
   try clear c14
   try clear c14b0
   try clear c14b1
   try clear c15
   try clear c15b0
   try clear c15b1
   try clear c15b2
   try clear c16
   try clear c17
   try clear c20
   try clear c20b0
   try clear c21
   try clear c21b0
   try clear c21b1
   try clear c21b2
   try clear c23
   try clear c24
   try clear c26
   try clear c26b0
   try clear c26b1
   try clear c26b2
   try clear c28
   obtain ⟨kq, x50_7, rfl, HA, HJ7, HB⟩ := hcut
   cases kq with
   | zero => exact absurd HA.out (by simp [laws_FnNumbers.j0])
   | succ kj7 =>
    have H := HA.out
    clear HA
    simp only [laws_FnNumbers.j0] at H
    by_cases c32 : x50_7 = true
    ·subst c32
     have H1 : (some false) = some r := by rw [if_pos rfl] at H; exact H
     exact absurd (HRT.out.symm.trans ((Option.some.inj H1).symm)) (by decide)
    ·replace c32 := Bool.eq_false_iff.mpr c32
     subst c32
     have H1 : ((spec_DrawParseNumber.f kj7 l0).bind fun t215 => ((impl_ParseNumber.f kj7 t215).bind fun bt216 => ((spec_ParseNumber.f kj7 t215).bind fun bt218 => (if (bt216.2 == bt218.2) = true then (if bt216.2 = true then ((impl_FormatInt.f bt216.1).bind fun t220 => (if t220.toList = t215.toList then (some (decide (bt216.1 ≥ 0))) else (some false))) else (some true)) else (some false))))) = some r := by rw [if_neg (show ¬ (false = true) by decide)] at H; exact H
     clear H
     have H := H1
     clear H1
     replace H := Option.bind_eq_some_iff.mp H
     obtain ⟨t215, A330, H⟩ := H
     replace H : ((impl_ParseNumber.f kj7 t215).bind fun bt216 => ((spec_ParseNumber.f kj7 t215).bind fun bt218 => (if (bt216.2 == bt218.2) = true then (if bt216.2 = true then ((impl_FormatInt.f bt216.1).bind fun t220 => (if t220.toList = t215.toList then (some (decide (bt216.1 ≥ 0))) else (some false))) else (some true)) else (some false)))) = some r := H
     have A33 := Aside0.mk A330
     clear A330
     replace H := Option.bind_eq_some_iff.mp H
     obtain ⟨⟨t216, t217⟩, A340, H⟩ := H
     replace H : ((spec_ParseNumber.f kj7 t215).bind fun bt218 => (if (t217 == bt218.2) = true then (if t217 = true then ((impl_FormatInt.f t216).bind fun t220 => (if t220.toList = t215.toList then (some (decide (t216 ≥ 0))) else (some false))) else (some true)) else (some false))) = some r := H
     have A34 := Aside0.mk A340
     clear A340
     replace H := Option.bind_eq_some_iff.mp H
     obtain ⟨⟨t218, t219⟩, A350, H⟩ := H
     replace H : (if (t217 == t219) = true then (if t217 = true then ((impl_FormatInt.f t216).bind fun t220 => (if t220.toList = t215.toList then (some (decide (t216 ≥ 0))) else (some false))) else (some true)) else (some false)) = some r := H
     have A35 := Aside0.mk A350
     clear A350
     by_cases c36 : (t217 == t219) = true
     ·rw [if_pos c36] at H
      have c36b0 : (t217 == t219) = true := c36
      (try (have c36b1 : decide (t217 = t219) = true := by simpa using c36))
      (try (have c36b2 : (t217 == t219) = true := by simpa using c36))
      clear c36
      by_cases c37 : t217 = true
      ·subst c37
       have H1 : ((impl_FormatInt.f t216).bind fun t220 => (if t220.toList = t215.toList then (some (decide (t216 ≥ 0))) else (some false))) = some r := by rw [if_pos rfl] at H; exact H
       clear H
       have H := H1
       clear H1
       replace H := Option.bind_eq_some_iff.mp H
       obtain ⟨t220, A380, H⟩ := H
       replace H : (if t220.toList = t215.toList then (some (decide (t216 ≥ 0))) else (some false)) = some r := H
       have A38 := Aside0.mk A380
       clear A380
       by_cases c39 : t220.toList = t215.toList
       ·rw [if_pos c39] at H
        have c39b0 : (t220.toList == t215.toList) = true := beq_iff_eq.mpr c39
        have c39b1 : (t220.toList != t215.toList) = false := bne_eq_false_iff_eq.mpr c39
        clear c39
        obtain rfl := Option.some.inj H
        go_wp2_with (first | ((with_reducible refine gate_callee (f := 25) rfl ?_); refine goesL_ (some 52) rfl rfl Tryd.func25 (by kernel_rfl) rfl #[.slice A0 l0.length c0] rfl (by (try simp only [List.map_toArray, List.map_cons, List.map_nil]); first | done | rfl | (simp only [List.length_drop, List.length_take]; rfl)) ?_; (with_reducible refine (spec_DrawParseNumber.calls kj7 _ _ l0 t215 _ ?side1 ?side2 A33.out).mono ?_); (case side1 => repeat (first | exact (Kd.C_below HR0.out HB.out) | (with_reducible refine Kd.C_alloc ?_ _) | (with_reducible refine Kd.C_drewN ?_ _) | (with_reducible refine Kd.C_drew ?_))); (case side2 => exact HC0.out); rintro e w40 ⟨rfl, hb⟩; refine ⟨_, rfl, ?_⟩; have n0_ := Aside0.mk (below_step (by repeat (first | (with_reducible first | exact HB.out | apply below_alloc | apply pw_below_drewN | apply below_drew1) | exact HB.out)) hb); clear HB; have HB := n0_; clear n0_; (try clear hb); (try clear hb2); (try clear hk); (try clear hi)) | ((with_reducible refine gate_callee (f := 18) rfl ?_); refine goesL_ (some 55) rfl rfl Tryd.func18 (by kernel_rfl) rfl #[.string t215] rfl (by (try simp only [List.map_toArray, List.map_cons, List.map_nil]); first | done | rfl | (simp only [List.length_drop, List.length_take]; rfl)) ?_; (with_reducible refine (impl_ParseNumber.calls kj7 t215 t216 true _ A34.out ?sideT).mono ?_); (case sideT => exact HTAB.out.zb (by repeat (first | (with_reducible first | exact HB.out | apply below_alloc | apply pw_below_drewN | apply below_drew1) | exact HB.out))); rintro e w41 ⟨rfl, hb⟩; refine ⟨_, rfl, ?_⟩; have n0_ := Aside0.mk (below_step (by repeat (first | (with_reducible first | exact HB.out | apply below_alloc | apply pw_below_drewN | apply below_drew1) | exact HB.out)) hb); clear HB; have HB := n0_; clear n0_; (try clear hb); (try clear hb2); (try clear hk); (try clear hi)) | ((with_reducible refine gate_callee (f := 17) rfl ?_); refine goesL_ (some 60) rfl rfl Tryd.func17 (by kernel_rfl) rfl #[.string t215] rfl (by (try simp only [List.map_toArray, List.map_cons, List.map_nil]); first | done | rfl | (simp only [List.length_drop, List.length_take]; rfl)) ?_; (with_reducible refine (spec_ParseNumber.calls kj7 t215 t218 t219 _ A35.out).mono ?_); rintro e w42 ⟨rfl, hb⟩; refine ⟨_, rfl, ?_⟩; have n0_ := Aside0.mk (below_step (by repeat (first | (with_reducible first | exact HB.out | apply below_alloc | apply pw_below_drewN | apply below_drew1) | exact HB.out)) hb); clear HB; have HB := n0_; clear n0_; (try clear hb); (try clear hb2); (try clear hk); (try clear hi)) | (go_at_call 14; (with_reducible refine (impl_FormatInt.calls t216 t220 _ A38.out ?sideT).mono ?_); (case sideT => exact HTAB.out.zb (by repeat (first | (with_reducible first | exact HB.out | apply below_alloc | apply pw_below_drewN | apply below_drew1) | exact HB.out))); rintro e w43 ⟨rfl, hb⟩; have n0_ := Aside0.mk (below_step (by repeat (first | (with_reducible first | exact HB.out | apply below_alloc | apply pw_below_drewN | apply below_drew1) | exact HB.out)) hb); clear HB; have HB := n0_; clear n0_; (try clear hb); (try clear hb2); (try clear hk); (try clear hi)))
        go_ret
        exact ⟨by first | rfl | (simp [errW_none, errW_some] <;> rfl) | (simp [*, errW_none, errW_some] <;> rfl), by repeat (first | (with_reducible first | exact HB.out | apply below_alloc | apply pw_below_drewN | apply below_drew1) | exact HB.out)⟩
       ·rw [if_neg c39] at H
        exact absurd (HRT.out.symm.trans ((Option.some.inj H).symm)) (by decide)
      ·replace c37 := Bool.eq_false_iff.mpr c37
       subst c37
       have H1 : (some true) = some r := by rw [if_neg (show ¬ (false = true) by decide)] at H; exact H
       clear H
       have H := H1
       clear H1
       obtain rfl := Option.some.inj H
       go_wp2_with (first | ((with_reducible refine gate_callee (f := 25) rfl ?_); refine goesL_ (some 52) rfl rfl Tryd.func25 (by kernel_rfl) rfl #[.slice A0 l0.length c0] rfl (by (try simp only [List.map_toArray, List.map_cons, List.map_nil]); first | done | rfl | (simp only [List.length_drop, List.length_take]; rfl)) ?_; (with_reducible refine (spec_DrawParseNumber.calls kj7 _ _ l0 t215 _ ?side1 ?side2 A33.out).mono ?_); (case side1 => repeat (first | exact (Kd.C_below HR0.out HB.out) | (with_reducible refine Kd.C_alloc ?_ _) | (with_reducible refine Kd.C_drewN ?_ _) | (with_reducible refine Kd.C_drew ?_))); (case side2 => exact HC0.out); rintro e w48 ⟨rfl, hb⟩; refine ⟨_, rfl, ?_⟩; have n0_ := Aside0.mk (below_step (by repeat (first | (with_reducible first | exact HB.out | apply below_alloc | apply pw_below_drewN | apply below_drew1) | exact HB.out)) hb); clear HB; have HB := n0_; clear n0_; (try clear hb); (try clear hb2); (try clear hk); (try clear hi)) | ((with_reducible refine gate_callee (f := 18) rfl ?_); refine goesL_ (some 55) rfl rfl Tryd.func18 (by kernel_rfl) rfl #[.string t215] rfl (by (try simp only [List.map_toArray, List.map_cons, List.map_nil]); first | done | rfl | (simp only [List.length_drop, List.length_take]; rfl)) ?_; (with_reducible refine (impl_ParseNumber.calls kj7 t215 t216 false _ A34.out ?sideT).mono ?_); (case sideT => exact HTAB.out.zb (by repeat (first | (with_reducible first | exact HB.out | apply below_alloc | apply pw_below_drewN | apply below_drew1) | exact HB.out))); rintro e w49 ⟨rfl, hb⟩; refine ⟨_, rfl, ?_⟩; have n0_ := Aside0.mk (below_step (by repeat (first | (with_reducible first | exact HB.out | apply below_alloc | apply pw_below_drewN | apply below_drew1) | exact HB.out)) hb); clear HB; have HB := n0_; clear n0_; (try clear hb); (try clear hb2); (try clear hk); (try clear hi)) | ((with_reducible refine gate_callee (f := 17) rfl ?_); refine goesL_ (some 60) rfl rfl Tryd.func17 (by kernel_rfl) rfl #[.string t215] rfl (by (try simp only [List.map_toArray, List.map_cons, List.map_nil]); first | done | rfl | (simp only [List.length_drop, List.length_take]; rfl)) ?_; (with_reducible refine (spec_ParseNumber.calls kj7 t215 t218 t219 _ A35.out).mono ?_); rintro e w50 ⟨rfl, hb⟩; refine ⟨_, rfl, ?_⟩; have n0_ := Aside0.mk (below_step (by repeat (first | (with_reducible first | exact HB.out | apply below_alloc | apply pw_below_drewN | apply below_drew1) | exact HB.out)) hb); clear HB; have HB := n0_; clear n0_; (try clear hb); (try clear hb2); (try clear hk); (try clear hi)))
       go_ret
       exact ⟨by first | rfl | (simp [errW_none, errW_some] <;> rfl) | (simp [*, errW_none, errW_some] <;> rfl), by repeat (first | (with_reducible first | exact HB.out | apply below_alloc | apply pw_below_drewN | apply below_drew1) | exact HB.out)⟩
     ·rw [if_neg c36] at H
      exact absurd (HRT.out.symm.trans ((Option.some.inj H).symm)) (by decide)

/-- THE ONE PURE STATEMENT of laws_FnNumbers: yours. -/
def laws_FnNumbers.Pure : Prop := ∀ (l0 : List Int), l0.length ≤ maxLen → l0.length * 1 ≤ 140737488351232 → (∀ x ∈ l0, (Lit.int .u8 x).wf = true) → ∃ k, laws_FnNumbers.f k l0 = some true
theorem laws_FnNumbers.walk (P : laws_FnNumbers.Pure) (a0 : Option Addr) (len0 cap0 : Nat) (z0 : List Int) (w : World) (w0 : (a0 = none ∧ len0 = 0 ∧ cap0 = 0 ∧ z0 = []) ∨ ∃ x, a0 = some x ∧ len0 ≤ cap0 ∧ cap0 ≤ maxLen ∧ z0.length = cap0 ∧ (∀ i, i < z0.length → w.cell? (x.add i) = some (.int .u8 (z0.getD i 0))) ∧ ∀ n ∈ z0, (Lit.int .u8 n).wf = true) (y0 : len0 * 1 ≤ 140737488351232) (hT : TabW w) :
  Calls Tryd.prog 7 #[.slice a0 len0 cap0] w fun e w' => e = .returned (.bool true) ∧ Below w.heap.size w w' := by
 obtain ⟨l0, rfl, hr0, hm0, hw0, hc0⟩ := ReadsInt.ofRowC w0
 obtain ⟨k, h⟩ := P l0 hm0 y0 hw0
 refine (laws_FnNumbers.calls k _ _ l0 true w (Kd.C_of_reads (d := (0 : Int)) (h1 := fun _ => rfl) hr0) hc0 h rfl hT).mono ?_
 rintro e w' ⟨rfl, hd⟩
 exact ⟨rfl, hd⟩

end Go.Proofs.YtplmcifjgmcmhaaDoor.PFnNumbers
