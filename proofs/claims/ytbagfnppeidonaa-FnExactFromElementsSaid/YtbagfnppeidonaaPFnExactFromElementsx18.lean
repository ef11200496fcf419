-- Written by a program of this session (a turned copy of the kit's print; see NOTES.md).
import Derived.Test.YtbagfnppeidonaaPFnExactFromElementsx0
import Derived.Test.YtbagfnppeidonaaPFnExactFromElementsx1
import Derived.Test.YtbagfnppeidonaaPFnExactFromElementsx9
import Derived.Test.YtbagfnppeidonaaPFnExactFromElementsx17
namespace Go.Proofs.Ytbagfnppeidonaa.PFnExactFromElements
open Go.RowKit Go.Proofs.YtbagfnppeidonaaW.PrintWords Go.Proofs.YtbagfnppeidonaaW.PrintLast Go.Proofs.YtbagfnppeidonaaW.PrintMore
attribute [local go_sem] max2_int min2_int max_two min_two max_three min_three max_four min_four   -- for this text's walks alone
set_option linter.unusedVariables false
set_option linter.unusedSimpArgs false

/-! ### laws_FnExactFromElements: function 9 -/
mutual
def laws_FnExactFromElements.j0 : Nat → List Int → Int → Bool → List Int → Bool → Bool → List Int → List Int → Option (Bool)
 | 0, _, _, _, _, _, _, _, _ => none
 | k + 1, x0, x1, x6, x7, x9, x41, x483000, x491000 => if x41 = true then (some false) else ((laws_toIntS.f k x0).bind fun t492 => ((laws_eqIntS.f k x7 t492).bind fun t495 => (if t495 = true then ((laws_markIntS.f k x7 1).bind fun bt496 => (if bt496.1 < 0 then (laws_FnExactFromElements.j1 k x0 x1 x6 true x483000 x491000) else ((laws_eqSemigroup.f k x491000 x483000).bind fun t498 => (if t498 = true then (laws_FnExactFromElements.j1 k x0 x1 x6 (x9 != x6) x483000 x491000) else (laws_FnExactFromElements.j1 k x0 x1 x6 true x483000 x491000))))) else (some false))))
def laws_FnExactFromElements.j1 : Nat → List Int → Int → Bool → Bool → List Int → List Int → Option (Bool)
 | 0, _, _, _, _, _, _ => none
 | k + 1, x0, x1, x6, x62, x483000, x491000 => if x62 = true then (some false) else ((laws_markSemigroup.f k x491000 1).bind fun bt499 => ((laws_heldSemigroup.f k bt499.2 1).bind fun t501 => (if t501 < 0 then (some false) else (if t501 = bt499.1 then ((laws_toIntS.f k x0).bind fun t502 => ((impl_FromElements.f k t502 x1).bind fun bt505 => ((laws_eqSemigroup.f k bt505.1 x483000).bind fun t510 => (if t510 = true then (laws_FnExactFromElements.j2 k bt499.1 (bt505.2 != x6) bt499.2) else (laws_FnExactFromElements.j2 k bt499.1 true bt499.2))))) else (some false)))))
def laws_FnExactFromElements.j2 : Nat → Int → Bool → List Int → Option (Bool)
 | 0, _, _, _ => none
 | k + 1, x11, x89, x491000 => if x89 = true then (some false) else ((laws_heldSemigroup.f k x491000 1).bind fun t511 => (if t511 < 0 then (some false) else (if t511 = x11 then (some true) else (some false))))
end
def laws_FnExactFromElements.f (k : Nat) (l0 : List Int) (a1 : Int) : Option (Bool) := if (l0.length : Int) > 1048576 then (some true) else ((laws_toIntS.f k l0).bind fun t475 => ((spec_FromElements.f k t475 a1).bind fun bt478 => ((laws_toIntS.f k l0).bind fun t483 => ((impl_FromElements.f k t483 a1).bind fun bt486 => ((laws_eqSemigroup.f k bt486.1 bt478.1).bind fun t491 => (if t491 = true then (laws_FnExactFromElements.j0 k l0 a1 bt478.2 t483 bt486.2 (bt486.2 != bt478.2) bt478.1 bt486.1) else (laws_FnExactFromElements.j0 k l0 a1 bt478.2 t483 bt486.2 true bt478.1 bt486.1)))))))
theorem laws_FnExactFromElements.mono_l : ∀ k, (∀ y0 y1 y2 y3 y4 y5 y6 y7, LeO (laws_FnExactFromElements.j0 k y0 y1 y2 y3 y4 y5 y6 y7) (laws_FnExactFromElements.j0 (k + 1) y0 y1 y2 y3 y4 y5 y6 y7)) ∧ (∀ y0 y1 y2 y3 y4 y5, LeO (laws_FnExactFromElements.j1 k y0 y1 y2 y3 y4 y5) (laws_FnExactFromElements.j1 (k + 1) y0 y1 y2 y3 y4 y5)) ∧ (∀ y0 y1 y2, LeO (laws_FnExactFromElements.j2 k y0 y1 y2) (laws_FnExactFromElements.j2 (k + 1) y0 y1 y2))
 | 0 => ⟨fun _ _ _ _ _ _ _ _ r h => by simp [laws_FnExactFromElements.j0] at h, fun _ _ _ _ _ _ r h => by simp [laws_FnExactFromElements.j1] at h, fun _ _ _ r h => by simp [laws_FnExactFromElements.j2] at h⟩
 | k + 1 => by
  obtain ⟨ih0, ih1, ih2⟩ := laws_FnExactFromElements.mono_l k
  refine ⟨?_, ?_, ?_⟩
  ·intro y0 y1 y2 y3 y4 y5 y6 y7
   unfold laws_FnExactFromElements.j0
   repeat' first
   | (with_reducible first | exact ih0 _ _ _ _ _ _ _ _ | exact ih1 _ _ _ _ _ _ | exact ih2 _ _ _ | exact impl_FromElements.mono _ _ _ | exact laws_eqIntS.mono _ _ _ | exact laws_eqSemigroup.mono _ _ _ | exact laws_heldSemigroup.mono _ _ _ | exact laws_markIntS.mono _ _ _ | exact laws_markSemigroup.mono _ _ _ | exact laws_toIntS.mono _ _ | exact spec_FromElements.mono _ _ _ | exact LeO.refl _ | exact LeO.none _ | refine LeO.ite ?_ ?_ | refine LeO.bind ?_ (fun _ => ?_))
   | exact LeO.none _
   | refine LeO.ite ?_ ?_
   | refine LeO.bind ?_ (fun _ => ?_)
  ·intro y0 y1 y2 y3 y4 y5
   unfold laws_FnExactFromElements.j1
   repeat' first
   | (with_reducible first | exact ih0 _ _ _ _ _ _ _ _ | exact ih1 _ _ _ _ _ _ | exact ih2 _ _ _ | exact impl_FromElements.mono _ _ _ | exact laws_eqIntS.mono _ _ _ | exact laws_eqSemigroup.mono _ _ _ | exact laws_heldSemigroup.mono _ _ _ | exact laws_markIntS.mono _ _ _ | exact laws_markSemigroup.mono _ _ _ | exact laws_toIntS.mono _ _ | exact spec_FromElements.mono _ _ _ | exact LeO.refl _ | exact LeO.none _ | refine LeO.ite ?_ ?_ | refine LeO.bind ?_ (fun _ => ?_))
   | exact LeO.none _
   | refine LeO.ite ?_ ?_
   | refine LeO.bind ?_ (fun _ => ?_)
  ·intro y0 y1 y2
   unfold laws_FnExactFromElements.j2
   repeat' first
   | (with_reducible first | exact ih0 _ _ _ _ _ _ _ _ | exact ih1 _ _ _ _ _ _ | exact ih2 _ _ _ | exact impl_FromElements.mono _ _ _ | exact laws_eqIntS.mono _ _ _ | exact laws_eqSemigroup.mono _ _ _ | exact laws_heldSemigroup.mono _ _ _ | exact laws_markIntS.mono _ _ _ | exact laws_markSemigroup.mono _ _ _ | exact laws_toIntS.mono _ _ | exact spec_FromElements.mono _ _ _ | exact LeO.refl _ | exact LeO.none _ | refine LeO.ite ?_ ?_ | refine LeO.bind ?_ (fun _ => ?_))
   | exact LeO.none _
   | refine LeO.ite ?_ ?_
   | refine LeO.bind ?_ (fun _ => ?_)
theorem laws_FnExactFromElements.mono : ∀ a0 a1 k, LeO (laws_FnExactFromElements.f k a0 a1) (laws_FnExactFromElements.f (k + 1) a0 a1) := by
 intro a0 a1 k
 obtain ⟨ih0, ih1, ih2⟩ := laws_FnExactFromElements.mono_l k
 unfold laws_FnExactFromElements.f
 repeat' first
   | (with_reducible first | exact ih0 _ _ _ _ _ _ _ _ | exact ih1 _ _ _ _ _ _ | exact ih2 _ _ _ | exact impl_FromElements.mono _ _ _ | exact laws_eqIntS.mono _ _ _ | exact laws_eqSemigroup.mono _ _ _ | exact laws_heldSemigroup.mono _ _ _ | exact laws_markIntS.mono _ _ _ | exact laws_markSemigroup.mono _ _ _ | exact laws_toIntS.mono _ _ | exact spec_FromElements.mono _ _ _ | exact LeO.refl _ | exact LeO.none _ | refine LeO.ite ?_ ?_ | refine LeO.bind ?_ (fun _ => ?_))
   | exact LeO.none _
   | refine LeO.ite ?_ ?_
   | refine LeO.bind ?_ (fun _ => ?_)
set_option maxHeartbeats 8000000 in
set_option maxRecDepth 100000 in
theorem laws_FnExactFromElements.calls (k : Nat) (A0 : Option Addr) (c0 : Nat) (l0 : List Int) (a1 : Int) (r : Bool) (w : World) (hr0 : Kd.C (Kd.int .i64) w A0 l0.length l0) (hc0 : l0.length ≤ c0) (h : laws_FnExactFromElements.f k l0 a1 = some r) :
  Calls Try.prog 9 #[.slice A0 l0.length c0, .int .i64 a1] w fun e w' => e = .returned (.bool r) ∧ Below w.heap.size w w' := by
 have hu40 := Try.underlying40
 have HR0 := Aside0.mk hr0
 have HC0 := Aside0.mk hc0
 clear hr0 hc0
 have HB := Aside0.mk (Below.refl w.heap.size w)
 have H : (if (l0.length : Int) > 1048576 then (some true) else ((laws_toIntS.f k l0).bind fun t475 => ((spec_FromElements.f k t475 a1).bind fun bt478 => ((laws_toIntS.f k l0).bind fun t483 => ((impl_FromElements.f k t483 a1).bind fun bt486 => ((laws_eqSemigroup.f k bt486.1 bt478.1).bind fun t491 => (if t491 = true then (laws_FnExactFromElements.j0 k l0 a1 bt478.2 t483 bt486.2 (bt486.2 != bt478.2) bt478.1 bt486.1) else (laws_FnExactFromElements.j0 k l0 a1 bt478.2 t483 bt486.2 true bt478.1 bt486.1)))))))) = some r := h
 clear h
 by_cases c3 : (l0.length : Int) > 1048576
 ·rw [if_pos c3] at H
  have c3b0 : decide (1048576 < (l0.length : Int)) = true := decide_eq_true c3
  have c3b1 : decide (1048576 < l0.length) = true := decide_eq_true (by omega)
  clear c3
  obtain rfl := Option.some.inj H
  go_enter Try.func9, Try.ntmps9
  go_wp2
  go_ret
  exact ⟨by first | rfl | (simp [errW_none, errW_some] <;> rfl) | (simp [*, errW_none, errW_some] <;> rfl), zB HB.out⟩
 ·rw [if_neg c3] at H
  have c3b0 : decide (1048576 < (l0.length : Int)) = false := decide_eq_false c3
  have c3b1 : decide (1048576 < l0.length) = false := decide_eq_false (by omega)
  clear c3
  obtain ⟨t475, A4, H⟩ := zb H
  obtain ⟨⟨t478, t481⟩, A5, H⟩ := zb H
  replace H : ((laws_toIntS.f k l0).bind fun t483 => ((impl_FromElements.f k t483 a1).bind fun bt486 => ((laws_eqSemigroup.f k bt486.1 t478).bind fun t491 => (if t491 = true then (laws_FnExactFromElements.j0 k l0 a1 t481 t483 bt486.2 (bt486.2 != t481) t478 bt486.1) else (laws_FnExactFromElements.j0 k l0 a1 t481 t483 bt486.2 true t478 bt486.1))))) = some r := H
  obtain ⟨t483, A6, H⟩ := zb H
  obtain ⟨⟨t486, t489⟩, A7, H⟩ := zb H
  replace H : ((laws_eqSemigroup.f k t486 t478).bind fun t491 => (if t491 = true then (laws_FnExactFromElements.j0 k l0 a1 t481 t483 t489 (t489 != t481) t478 t486) else (laws_FnExactFromElements.j0 k l0 a1 t481 t483 t489 true t478 t486))) = some r := H
  have HC8 := Aside0.mk H
  clear H
  go_enter Try.func9, Try.ntmps9
  go_upto_region 6 with (first | ((with_reducible refine gate_callee (f := 27) rfl ?_); refine goesL_ (some 20) rfl rfl Try.func27 (by kernel_rfl) rfl #[.slice A0 l0.length c0] rfl (by (try simp only [List.map_toArray, List.map_cons, List.map_nil]); first | done | rfl | (simp only [List.length_drop, List.length_take]; rfl)) ?_; (with_reducible refine (laws_toIntS.calls k _ _ l0 t475 _ ?side1 ?side2 A4.out).mono ?_); (case side1 => repeat (first | exact HR0.out | (with_reducible refine Kd.C_alloc ?_ _) | (with_reducible refine Kd.C_drewN ?_ _) | (with_reducible refine Kd.C_drew ?_))); (case side2 => exact HC0.out); rintro e w9 ⟨v476, rfl, ho0, hb⟩; refine ⟨_, rfl, ?_⟩; have n0_ := Aside0.mk (Kd.R_lower ho0 (below_size (zB HB.out))); have n1_ := Aside0.mk (below_step (zB HB.out) hb); clear HB; have HO477 := n0_; have HB := n1_; clear n0_ n1_; (try clear hb); (try clear hb2); (try clear hk); (try clear hi); (try clear ho0); obtain ⟨Ao10, co10, eo10⟩ := Kd.R_slice HO477.out; subst eo10) | ((with_reducible refine gate_callee (f := 56) rfl ?_); refine goesL_ (some 22) rfl rfl Try.func56 (by kernel_rfl) rfl #[.slice Ao10 t475.length co10, .int .i64 a1] rfl (by (try simp only [List.map_toArray, List.map_cons, List.map_nil]); first | done | rfl | (simp only [List.length_drop, List.length_take]; rfl)) ?_; (with_reducible refine (spec_FromElements.calls k _ _ t475 a1 t478 t481 _ ?side1 ?side2 A5.out).mono ?_); (case side1 => repeat (first | exact (Kd.R_reads' HO477.out).2.2 | (with_reducible refine Kd.C_alloc ?_ _) | (with_reducible refine Kd.C_drewN ?_ _) | (with_reducible refine Kd.C_drew ?_))); (case side2 => exact (Kd.R_reads' HO477.out).2.1); rintro e w11 ⟨v479, rfl, ho0, hb⟩; refine ⟨_, rfl, ?_⟩; have n0_ := Aside0.mk (Kd.R_elder' (zR HO477.out) (Kd.R_base ho0) hb); have n1_ := Aside0.mk (Kd.R_lower (Kd.R_new' ho0 (Kd.R_lt (zR HO477.out))) (below_size (zB HB.out))); have n2_ := Aside0.mk (below_step (zB HB.out) hb); clear HO477; clear HB; have HO477 := n0_; have HO480 := n1_; have HB := n2_; clear n0_ n1_ n2_; (try clear hb); (try clear hb2); (try clear hk); (try clear hi); (try clear ho0)) | ((with_reducible refine gate_dst (N := 5) rfl ?_); refine box_event ?hg (N := 5) ?hd (cs := #[.slice none 0 0]) (t := 40) ?hr ?_; (case hd => rfl); (case hg => rfl); (case hr => first | (go_simp; done) | (go_simp; rfl)); intro gb482 hg w12 hbox hb; have n0_ := Aside0.mk (Kd.R_below (zR HO477.out) hb); have n1_ := Aside0.mk (Kd.R_below (zR HO480.out) hb); have n2_ := Aside0.mk (below_step (zB HB.out) hb); have n3_ := Aside0.mk (hbox); have n4_ := Aside0.mk ((by rw [hg]; exact (below_size (zB HB.out)) : w.heap.size ≤ gb482)); have n5_ := Aside0.mk ((by rw [hg]; exact (below_size (zB HB.out)) : w.heap.size ≤ gb482)); clear HO477; clear HO480; clear HB; have HO477 := n0_; have HO480 := n1_; have HB := n2_; have BK482 := n3_; have GW482 := n4_; have GE482 := n5_; clear n0_ n1_ n2_ n3_ n4_ n5_; clear hb hbox hg; obtain ⟨Ao13, co13, eo13⟩ := Kd.R_slice HO480.out; subst eo13; have hcz14_0 : w12.cell? ⟨gb482, 0, none⟩ = some (.slice none 0 0) := (blk_cell BK482.out 0).trans rfl; have hfz14_0 := blk_frozen BK482.out 0) | ((with_reducible refine gate_callee (f := 27) rfl ?_); refine goesL_ (some 26) rfl rfl Try.func27 (by kernel_rfl) rfl #[.slice A0 l0.length c0] rfl (by (try simp only [List.map_toArray, List.map_cons, List.map_nil]); first | done | rfl | (simp only [List.length_drop, List.length_take]; rfl)) ?_; (with_reducible refine (laws_toIntS.calls k _ _ l0 t483 _ ?side1 ?side2 A6.out).mono ?_); (case side1 => exact Kd.C_below HR0.out (by repeat (first | (with_reducible first | exact HB.out | apply below_alloc | apply pw_below_drewN | apply below_drew1 | refine below_set ?_ GE482.out) | exact HB.out))); (case side2 => exact HC0.out); rintro e w15 ⟨v484, rfl, ho0, hb⟩; refine ⟨_, rfl, ?_⟩; have n0_ := Aside0.mk (Kd.R_elder' (zR ((Kd.R_mono (Kd.R_far (p := ⟨gb482, 0, none⟩) (Kd.R_types HO477.out BK482.out (by decide)) (fun _ hk => hk.2) (.slice Ao13 t478.length co13)) (fun _ h_ => h_.1)))) (Kd.R_base ho0) hb); have n1_ := Aside0.mk (Kd.R_elder' (zR ((Kd.R_mono (Kd.R_far (p := ⟨gb482, 0, none⟩) (Kd.R_types HO480.out BK482.out (by decide)) (fun _ hk => hk.2) (.slice Ao13 t478.length co13)) (fun _ h_ => h_.1)))) (Kd.R_base ho0) hb); have n2_ := Aside0.mk (Kd.R_lower (Kd.R_new' (Kd.R_new' ho0 (Kd.R_lt (zR ((Kd.R_mono (Kd.R_far (p := ⟨gb482, 0, none⟩) (Kd.R_types HO477.out BK482.out (by decide)) (fun _ hk => hk.2) (.slice Ao13 t478.length co13)) (fun _ h_ => h_.1)))))) (Kd.R_lt (zR ((Kd.R_mono (Kd.R_far (p := ⟨gb482, 0, none⟩) (Kd.R_types HO480.out BK482.out (by decide)) (fun _ hk => hk.2) (.slice Ao13 t478.length co13)) (fun _ h_ => h_.1)))))) (below_size (by repeat (first | (with_reducible first | exact HB.out | apply below_alloc | apply pw_below_drewN | apply below_drew1 | refine below_set ?_ GE482.out) | exact HB.out)))); have n3_ := Aside0.mk (blk_below (g := gb482) (o := .cells #[.slice Ao13 t478.length co13] 40 (0, 0)) (by (with_reducible repeat (first | refine blk_drewN ?_ _ | refine blk_drew ?_ | refine blk_alloc ?_ _)); refine blk_put (cs := #[.slice none 0 0]) ?_ 0 _ rfl; (with_reducible repeat (first | refine blk_drewN ?_ _ | refine blk_drew ?_ | refine blk_alloc ?_ _)); exact BK482.out) hb); have n4_ := Aside0.mk (below_step (by repeat (first | (with_reducible first | exact HB.out | apply below_alloc | apply pw_below_drewN | apply below_drew1 | refine below_set ?_ GE482.out) | exact HB.out)) hb); clear HO477; clear HO480; clear BK482; clear HB; have HO477 := n0_; have HO480 := n1_; have HO485 := n2_; have BK482 := n3_; have HB := n4_; clear n0_ n1_ n2_ n3_ n4_; (try clear hb); (try clear hb2); (try clear hk); (try clear hi); (try clear ho0); obtain ⟨Ao16, co16, eo16⟩ := Kd.R_slice HO485.out; subst eo16) | ((with_reducible refine gate_callee (f := 57) rfl ?_); refine goesL_ (some 30) rfl rfl Try.func57 (by kernel_rfl) rfl #[.slice Ao16 t483.length co16, .int .i64 a1] rfl (by (try simp only [List.map_toArray, List.map_cons, List.map_nil]); first | done | rfl | (simp only [List.length_drop, List.length_take]; rfl)) ?_; (with_reducible refine (impl_FromElements.calls k _ _ t483 a1 t486 t489 _ ?side1 ?side2 A7.out).mono ?_); (case side1 => repeat (first | exact (Kd.R_reads' HO485.out).2.2 | (with_reducible refine Kd.C_alloc ?_ _) | (with_reducible refine Kd.C_drewN ?_ _) | (with_reducible refine Kd.C_drew ?_))); (case side2 => exact (Kd.R_reads' HO485.out).2.1); rintro e w17 ⟨v487, rfl, ho0, hb⟩; refine ⟨_, rfl, ?_⟩; have n0_ := Aside0.mk (Kd.R_elder' (zR HO477.out) (Kd.R_base ho0) hb); have n1_ := Aside0.mk (Kd.R_elder' (zR HO480.out) (Kd.R_base ho0) hb); have n2_ := Aside0.mk (Kd.R_elder' (zR HO485.out) (Kd.R_base ho0) hb); have n3_ := Aside0.mk (Kd.R_lower (Kd.R_new' (Kd.R_new' (Kd.R_new' ho0 (Kd.R_lt (zR HO477.out))) (Kd.R_lt (zR HO480.out))) (Kd.R_lt (zR HO485.out))) (below_size (by repeat (first | (with_reducible first | exact HB.out | apply below_alloc | apply pw_below_drewN | apply below_drew1 | refine below_set ?_ GE482.out) | exact HB.out)))); have n4_ := Aside0.mk (blk_below (g := gb482) (o := .cells #[.slice Ao13 t478.length co13] 40 (0, 0)) (zk BK482.out) hb); have n5_ := Aside0.mk (below_step (by repeat (first | (with_reducible first | exact HB.out | apply below_alloc | apply pw_below_drewN | apply below_drew1 | refine below_set ?_ GE482.out) | exact HB.out)) hb); clear HO477; clear HO480; clear HO485; clear BK482; clear HB; have HO477 := n0_; have HO480 := n1_; have HO485 := n2_; have HO488 := n3_; have BK482 := n4_; have HB := n5_; clear n0_ n1_ n2_ n3_ n4_ n5_; (try clear hb); (try clear hb2); (try clear hk); (try clear hi); (try clear ho0)) | ((with_reducible refine gate_dst (N := 8) rfl ?_); refine box_event ?hg (N := 8) ?hd (cs := #[.slice none 0 0]) (t := 40) ?hr ?_; (case hd => rfl); (case hg => rfl); (case hr => first | (go_simp; done) | (go_simp; rfl)); intro gb490 hg w18 hbox hb; have n0_ := Aside0.mk (Kd.R_below (zR HO477.out) hb); have n1_ := Aside0.mk (Kd.R_below (zR HO480.out) hb); have n2_ := Aside0.mk (Kd.R_below (zR HO485.out) hb); have n3_ := Aside0.mk (Kd.R_below (zR HO488.out) hb); have n4_ := Aside0.mk (blk_below (g := gb482) (o := .cells #[.slice Ao13 t478.length co13] 40 (0, 0)) (zk BK482.out) hb); have n5_ := Aside0.mk (below_step (by repeat (first | (with_reducible first | exact HB.out | apply below_alloc | apply pw_below_drewN | apply below_drew1 | refine below_set ?_ GE482.out) | exact HB.out)) hb); have n6_ := Aside0.mk (hbox); have n7_ := Aside0.mk ((by rw [hg]; exact (below_size (by repeat (first | (with_reducible first | exact HB.out | apply below_alloc | apply pw_below_drewN | apply below_drew1 | refine below_set ?_ GE482.out) | exact HB.out))) : w.heap.size ≤ gb490)); have n8_ := Aside0.mk ((by rw [hg]; exact (below_size (by repeat (first | (with_reducible first | exact HB.out | apply below_alloc | apply pw_below_drewN | apply below_drew1 | refine below_set ?_ GE482.out) | exact HB.out))) : w.heap.size ≤ gb490)); have n9_ := Aside0.mk ((by rw [hg]; exact Nat.ne_of_lt (blk_lt (g := gb482) (o := .cells #[.slice Ao13 t478.length co13] 40 (0, 0)) (zk BK482.out)) : gb482 ≠ gb490)); have n10_ := Aside0.mk ((by rw [hg]; exact Nat.ne_of_gt (blk_lt (g := gb482) (o := .cells #[.slice Ao13 t478.length co13] 40 (0, 0)) (zk BK482.out)) : gb490 ≠ gb482)); clear HO477; clear HO480; clear HO485; clear HO488; clear BK482; clear HB; have HO477 := n0_; have HO480 := n1_; have HO485 := n2_; have HO488 := n3_; have BK482 := n4_; have HB := n5_; have BK490 := n6_; have GW490 := n7_; have GE490 := n8_; have NB482_490 := n9_; have NB490_482 := n10_; clear n0_ n1_ n2_ n3_ n4_ n5_ n6_ n7_ n8_ n9_ n10_; clear hb hbox hg; obtain ⟨Ao19, co19, eo19⟩ := Kd.R_slice HO488.out; subst eo19; have hnb20 := NB490_482.out; have hnc20 := NB482_490.out; have hcz21_0 : w18.cell? ⟨gb490, 0, none⟩ = some (.slice none 0 0) := (blk_cell BK490.out 0).trans rfl; have hfz21_0 := blk_frozen BK490.out 0))
  (try simp only [Act.put, List.setIfInBounds_toArray, List.set_cons_zero, List.set_cons_succ])
  go_cut [41] (fun v41 wc => ∃ (kq : Nat) (x41_7 : Bool), v41 = .bool x41_7 ∧ Aside0 (laws_FnExactFromElements.j0 kq l0 a1 t481 t483 t489 x41_7 t478 t486 = some r) ∧ Aside0 (kq ≤ k) ∧ Aside0 (Kd.R (Kd.int .i64) 3 wc w.heap.size (fun k_ => some k_ ≠ ((.slice Ao13 t478.length co13) : Value).ownBlock ∧ some k_ ≠ ((.slice Ao19 t486.length co19) : Value).ownBlock) (.slice Ao16 t483.length co16) t483) ∧ Aside0 (Kd.R (Kd.int .i64) 3 wc w.heap.size (fun k_ => some k_ ≠ ((.slice Ao16 t483.length co16) : Value).ownBlock ∧ some k_ ≠ ((.slice Ao19 t486.length co19) : Value).ownBlock) (.slice Ao13 t478.length co13) t478) ∧ Aside0 (Kd.R (Kd.int .i64) 3 wc w.heap.size (fun k_ => some k_ ≠ ((.slice Ao16 t483.length co16) : Value).ownBlock ∧ some k_ ≠ ((.slice Ao13 t478.length co13) : Value).ownBlock) (.slice Ao19 t486.length co19) t486) ∧ Aside0 (wc.heap[gb482]? = some (.cells #[(.slice Ao13 t478.length co13)] 40 (0, 0))) ∧ Aside0 (wc.heap[gb490]? = some (.cells #[(.slice Ao19 t486.length co19)] 40 (0, 0))) ∧ Aside0 (Below w.heap.size w wc))
  case first =>
   have H := HC8.out
   clear HC8
   obtain ⟨t491, A22, H⟩ := zb H
   by_cases c23 : t491 = true
   ·subst c23
    rw [zT] at H
    have H' := Aside0.mk H
    clear H
    have hnb24 := NB490_482.out
    have hnc24 := NB482_490.out
    have hcz25_0 : w18.cell? ⟨gb490, 0, none⟩ = some (.slice none 0 0) := (blk_cell BK490.out 0).trans rfl
    have hfz25_0 := blk_frozen BK490.out 0
    have hcz26_0 : w18.cell? ⟨gb482, 0, none⟩ = some (.slice Ao13 t478.length co13) := (blk_cell BK482.out 0).trans rfl
    have hfz26_0 := blk_frozen BK482.out 0
    go_wp2_with (first | ((with_reducible refine gate_callee (f := 58) rfl ?_); refine goesL_ (some 35) rfl rfl Try.func58 (by kernel_rfl) rfl #[.agg #[.slice Ao19 t486.length co19], .agg #[.slice Ao13 t478.length co13]] rfl (by (try simp only [List.map_toArray, List.map_cons, List.map_nil]); first | done | rfl | (simp only [List.length_drop, List.length_take]; rfl)) ?_; (with_reducible refine (laws_eqSemigroup.calls k _ _ t486 _ _ t478 true _ ?side1 ?side2 ?side3 ?side4 A22.out).mono ?_); (case side1 => refine (Kd.R_reads' (e := 3) (base := w.heap.size) (ok := fun k_ => (((True ∧ some k_ ≠ (.slice Ao10 t475.length co10 : Value).ownBlock) ∧ some k_ ≠ (.slice Ao13 t478.length co13 : Value).ownBlock) ∧ some k_ ≠ (.slice Ao16 t483.length co16 : Value).ownBlock)) (n := t486.length) (c := co19) ?_).2.2; exact (zR ((Kd.R_mono (Kd.R_far (p := ⟨gb490, 0, none⟩) (Kd.R_types HO488.out BK490.out (by decide)) (fun _ hk => hk.2) (.slice Ao19 t486.length co19)) (fun _ h_ => h_.1))))); (case side2 => exact (Kd.R_reads' HO488.out).2.1); (case side3 => refine (Kd.R_reads' (e := 3) (base := w.heap.size) (ok := fun k_ => (((True ∧ some k_ ≠ (.slice Ao10 t475.length co10 : Value).ownBlock) ∧ some k_ ≠ (.slice Ao16 t483.length co16 : Value).ownBlock) ∧ some k_ ≠ (.slice Ao19 t486.length co19 : Value).ownBlock)) (n := t478.length) (c := co13) ?_).2.2; exact (zR ((Kd.R_mono (Kd.R_far (p := ⟨gb490, 0, none⟩) (Kd.R_types HO480.out BK490.out (by decide)) (fun _ hk => hk.2) (.slice Ao19 t486.length co19)) (fun _ h_ => h_.1))))); (case side4 => exact (Kd.R_reads' HO480.out).2.1); rintro e w27 ⟨rfl, hb⟩; refine ⟨_, rfl, ?_⟩; have n0_ := Aside0.mk (Kd.R_below (zR ((Kd.R_mono (Kd.R_far (p := ⟨gb490, 0, none⟩) (Kd.R_types HO477.out BK490.out (by decide)) (fun _ hk => hk.2) (.slice Ao19 t486.length co19)) (fun _ h_ => h_.1)))) hb); have n1_ := Aside0.mk (Kd.R_below (zR ((Kd.R_mono (Kd.R_far (p := ⟨gb490, 0, none⟩) (Kd.R_types HO480.out BK490.out (by decide)) (fun _ hk => hk.2) (.slice Ao19 t486.length co19)) (fun _ h_ => h_.1)))) hb); have n2_ := Aside0.mk (Kd.R_below (zR ((Kd.R_mono (Kd.R_far (p := ⟨gb490, 0, none⟩) (Kd.R_types HO485.out BK490.out (by decide)) (fun _ hk => hk.2) (.slice Ao19 t486.length co19)) (fun _ h_ => h_.1)))) hb); have n3_ := Aside0.mk (Kd.R_below (zR ((Kd.R_mono (Kd.R_far (p := ⟨gb490, 0, none⟩) (Kd.R_types HO488.out BK490.out (by decide)) (fun _ hk => hk.2) (.slice Ao19 t486.length co19)) (fun _ h_ => h_.1)))) hb); have n4_ := Aside0.mk (blk_below (g := gb482) (o := .cells #[.slice Ao13 t478.length co13] 40 (0, 0)) (by (with_reducible repeat (first | refine blk_drewN ?_ _ | refine blk_drew ?_ | refine blk_alloc ?_ _)); refine blk_far ?_ NB482_490.out _; (with_reducible repeat (first | refine blk_drewN ?_ _ | refine blk_drew ?_ | refine blk_alloc ?_ _)); exact BK482.out) hb); have n5_ := Aside0.mk (blk_below (g := gb490) (o := .cells #[.slice Ao19 t486.length co19] 40 (0, 0)) (by (with_reducible repeat (first | refine blk_drewN ?_ _ | refine blk_drew ?_ | refine blk_alloc ?_ _)); refine blk_put (cs := #[.slice none 0 0]) ?_ 0 _ rfl; (with_reducible repeat (first | refine blk_drewN ?_ _ | refine blk_drew ?_ | refine blk_alloc ?_ _)); exact BK490.out) hb); have n6_ := Aside0.mk (below_step (by repeat (first | (with_reducible first | exact HB.out | apply below_alloc | apply pw_below_drewN | apply below_drew1 | refine below_set ?_ GE482.out | refine below_set ?_ GE490.out) | exact HB.out)) hb); clear HO477; clear HO480; clear HO485; clear HO488; clear BK482; clear BK490; clear HB; have HO477 := n0_; have HO480 := n1_; have HO485 := n2_; have HO488 := n3_; have BK482 := n4_; have BK490 := n5_; have HB := n6_; clear n0_ n1_ n2_ n3_ n4_ n5_ n6_; (try clear hb); (try clear hb2); (try clear hk); (try clear hi)))
    go_meet
    case rel => exact ⟨_, ((t489 != t481)), (by first | rfl | (simp; done) | (simp [*]; done)), H', ⟨by first | omega | exact Nat.le_refl _⟩, ⟨zR (Kd.R_mono HO485.out (fun _ hk => by first | exact ⟨hk.1.2, hk.2⟩ | (revert hk; simp +contextual)))⟩, ⟨zR (Kd.R_mono HO480.out (fun _ hk => by first | exact ⟨hk.1.2, hk.2⟩ | (revert hk; simp +contextual)))⟩, ⟨zR (Kd.R_mono HO488.out (fun _ hk => by first | exact ⟨hk.2, hk.1.2⟩ | (revert hk; simp +contextual)))⟩, ⟨zk BK482.out⟩, ⟨zk BK490.out⟩, ⟨by repeat (first | (with_reducible first | exact HB.out | apply below_alloc | apply pw_below_drewN | apply below_drew1 | refine below_set ?_ GE482.out | refine below_set ?_ GE490.out) | exact HB.out)⟩⟩
   ·replace c23 := Bool.eq_false_iff.mpr c23
    subst c23
    rw [zF] at H
    have H' := Aside0.mk H
    clear H
    have hnb28 := NB490_482.out
    have hnc28 := NB482_490.out
    have hcz29_0 : w18.cell? ⟨gb490, 0, none⟩ = some (.slice none 0 0) := (blk_cell BK490.out 0).trans rfl
    have hfz29_0 := blk_frozen BK490.out 0
    have hcz30_0 : w18.cell? ⟨gb482, 0, none⟩ = some (.slice Ao13 t478.length co13) := (blk_cell BK482.out 0).trans rfl
    have hfz30_0 := blk_frozen BK482.out 0
    go_wp2_with (first | ((with_reducible refine gate_callee (f := 58) rfl ?_); refine goesL_ (some 35) rfl rfl Try.func58 (by kernel_rfl) rfl #[.agg #[.slice Ao19 t486.length co19], .agg #[.slice Ao13 t478.length co13]] rfl (by (try simp only [List.map_toArray, List.map_cons, List.map_nil]); first | done | rfl | (simp only [List.length_drop, List.length_take]; rfl)) ?_; (with_reducible refine (laws_eqSemigroup.calls k _ _ t486 _ _ t478 false _ ?side1 ?side2 ?side3 ?side4 A22.out).mono ?_); (case side1 => refine (Kd.R_reads' (e := 3) (base := w.heap.size) (ok := fun k_ => (((True ∧ some k_ ≠ (.slice Ao10 t475.length co10 : Value).ownBlock) ∧ some k_ ≠ (.slice Ao13 t478.length co13 : Value).ownBlock) ∧ some k_ ≠ (.slice Ao16 t483.length co16 : Value).ownBlock)) (n := t486.length) (c := co19) ?_).2.2; exact (zR ((Kd.R_mono (Kd.R_far (p := ⟨gb490, 0, none⟩) (Kd.R_types HO488.out BK490.out (by decide)) (fun _ hk => hk.2) (.slice Ao19 t486.length co19)) (fun _ h_ => h_.1))))); (case side2 => exact (Kd.R_reads' HO488.out).2.1); (case side3 => refine (Kd.R_reads' (e := 3) (base := w.heap.size) (ok := fun k_ => (((True ∧ some k_ ≠ (.slice Ao10 t475.length co10 : Value).ownBlock) ∧ some k_ ≠ (.slice Ao16 t483.length co16 : Value).ownBlock) ∧ some k_ ≠ (.slice Ao19 t486.length co19 : Value).ownBlock)) (n := t478.length) (c := co13) ?_).2.2; exact (zR ((Kd.R_mono (Kd.R_far (p := ⟨gb490, 0, none⟩) (Kd.R_types HO480.out BK490.out (by decide)) (fun _ hk => hk.2) (.slice Ao19 t486.length co19)) (fun _ h_ => h_.1))))); (case side4 => exact (Kd.R_reads' HO480.out).2.1); rintro e w31 ⟨rfl, hb⟩; refine ⟨_, rfl, ?_⟩; have n0_ := Aside0.mk (Kd.R_below (zR ((Kd.R_mono (Kd.R_far (p := ⟨gb490, 0, none⟩) (Kd.R_types HO477.out BK490.out (by decide)) (fun _ hk => hk.2) (.slice Ao19 t486.length co19)) (fun _ h_ => h_.1)))) hb); have n1_ := Aside0.mk (Kd.R_below (zR ((Kd.R_mono (Kd.R_far (p := ⟨gb490, 0, none⟩) (Kd.R_types HO480.out BK490.out (by decide)) (fun _ hk => hk.2) (.slice Ao19 t486.length co19)) (fun _ h_ => h_.1)))) hb); have n2_ := Aside0.mk (Kd.R_below (zR ((Kd.R_mono (Kd.R_far (p := ⟨gb490, 0, none⟩) (Kd.R_types HO485.out BK490.out (by decide)) (fun _ hk => hk.2) (.slice Ao19 t486.length co19)) (fun _ h_ => h_.1)))) hb); have n3_ := Aside0.mk (Kd.R_below (zR ((Kd.R_mono (Kd.R_far (p := ⟨gb490, 0, none⟩) (Kd.R_types HO488.out BK490.out (by decide)) (fun _ hk => hk.2) (.slice Ao19 t486.length co19)) (fun _ h_ => h_.1)))) hb); have n4_ := Aside0.mk (blk_below (g := gb482) (o := .cells #[.slice Ao13 t478.length co13] 40 (0, 0)) (by (with_reducible repeat (first | refine blk_drewN ?_ _ | refine blk_drew ?_ | refine blk_alloc ?_ _)); refine blk_far ?_ NB482_490.out _; (with_reducible repeat (first | refine blk_drewN ?_ _ | refine blk_drew ?_ | refine blk_alloc ?_ _)); exact BK482.out) hb); have n5_ := Aside0.mk (blk_below (g := gb490) (o := .cells #[.slice Ao19 t486.length co19] 40 (0, 0)) (by (with_reducible repeat (first | refine blk_drewN ?_ _ | refine blk_drew ?_ | refine blk_alloc ?_ _)); refine blk_put (cs := #[.slice none 0 0]) ?_ 0 _ rfl; (with_reducible repeat (first | refine blk_drewN ?_ _ | refine blk_drew ?_ | refine blk_alloc ?_ _)); exact BK490.out) hb); have n6_ := Aside0.mk (below_step (by repeat (first | (with_reducible first | exact HB.out | apply below_alloc | apply pw_below_drewN | apply below_drew1 | refine below_set ?_ GE482.out | refine below_set ?_ GE490.out) | exact HB.out)) hb); clear HO477; clear HO480; clear HO485; clear HO488; clear BK482; clear BK490; clear HB; have HO477 := n0_; have HO480 := n1_; have HO485 := n2_; have HO488 := n3_; have BK482 := n4_; have BK490 := n5_; have HB := n6_; clear n0_ n1_ n2_ n3_ n4_ n5_ n6_; (try clear hb); (try clear hb2); (try clear hk); (try clear hi)))
    go_meet
    case rel => exact ⟨_, (true), (by first | rfl | (simp; done) | (simp [*]; done)), H', ⟨by first | omega | exact Nat.le_refl _⟩, ⟨zR (Kd.R_mono HO485.out (fun _ hk => by first | exact ⟨hk.1.2, hk.2⟩ | (revert hk; simp +contextual)))⟩, ⟨zR (Kd.R_mono HO480.out (fun _ hk => by first | exact ⟨hk.1.2, hk.2⟩ | (revert hk; simp +contextual)))⟩, ⟨zR (Kd.R_mono HO488.out (fun _ hk => by first | exact ⟨hk.2, hk.1.2⟩ | (revert hk; simp +contextual)))⟩, ⟨zk BK482.out⟩, ⟨zk BK490.out⟩, ⟨by repeat (first | (with_reducible first | exact HB.out | apply below_alloc | apply pw_below_drewN | apply below_drew1 | refine below_set ?_ GE482.out | refine below_set ?_ GE490.out) | exact HB.out)⟩⟩
  case rest =>
   clear HC8
   try clear c2
   try clear p2
   try clear c3
   try clear c3b0
   try clear c3b1
   try clear c5
   try clear c9
   try clear c20
   try clear c23
   try clear c24
   try clear c27
   try clear c28
   try clear hcz14_0
   try clear hcz21_0
   try clear hcz25_0
   try clear hcz26_0
   try clear hcz29_0
   try clear hcz30_0
   try clear hfz14_0
   try clear hfz21_0
   try clear hfz25_0
   try clear hfz26_0
   try clear hfz29_0
   try clear hfz30_0
   obtain ⟨kq, x41_7, rfl, HA, HJ7, HO_7, HO_483000, HO_491000, BK482, BK490, HB⟩ := hcut
   cases kq with
   | zero => exact absurd HA.out (by simp [laws_FnExactFromElements.j0])
   | succ kj7 =>
    have H := HA.out
    clear HA
    simp only [laws_FnExactFromElements.j0] at H
    by_cases c32 : x41_7 = true
    ·subst c32
     rw [zT] at H
     obtain rfl := Option.some.inj H
     go_wp2
     go_ret
     exact ⟨by first | rfl | (simp [errW_none, errW_some] <;> rfl) | (simp [*, errW_none, errW_some] <;> rfl), by repeat (first | (with_reducible first | exact HB.out | apply below_alloc | apply pw_below_drewN | apply below_drew1 | refine below_set ?_ GE482.out | refine below_set ?_ GE490.out) | exact HB.out)⟩
    ·replace c32 := Bool.eq_false_iff.mpr c32
     subst c32
     rw [zF] at H
     obtain ⟨t492, A33, H⟩ := zb H
     obtain ⟨t495, A34, H⟩ := zb H
     have HU35 := Aside0.mk H
     clear H
     go_upto_if 46 with (first | ((with_reducible refine gate_callee (f := 27) rfl ?_); refine goesL_ (some 44) rfl rfl Try.func27 (by kernel_rfl) rfl #[.slice A0 l0.length c0] rfl (by (try simp only [List.map_toArray, List.map_cons, List.map_nil]); first | done | rfl | (simp only [List.length_drop, List.length_take]; rfl)) ?_; (with_reducible refine (laws_toIntS.calls kj7 _ _ l0 t492 _ ?side1 ?side2 A33.out).mono ?_); (case side1 => exact zC (Kd.C_below HR0.out HB.out)); (case side2 => exact HC0.out); rintro e w36 ⟨v493, rfl, ho0, hb⟩; refine ⟨_, rfl, ?_⟩; have n0_ := Aside0.mk (Kd.R_elder' (zR HO_7.out) (Kd.R_base ho0) hb); have n1_ := Aside0.mk (Kd.R_elder' (zR HO_483000.out) (Kd.R_base ho0) hb); have n2_ := Aside0.mk (Kd.R_elder' (zR HO_491000.out) (Kd.R_base ho0) hb); have n3_ := Aside0.mk (Kd.R_lower (Kd.R_new' (Kd.R_new' (Kd.R_new' ho0 (Kd.R_lt (zR HO_7.out))) (Kd.R_lt (zR HO_483000.out))) (Kd.R_lt (zR HO_491000.out))) (below_size (by repeat (first | (with_reducible first | exact HB.out | apply below_alloc | apply pw_below_drewN | apply below_drew1 | refine below_set ?_ GE482.out | refine below_set ?_ GE490.out) | exact HB.out)))); have n4_ := Aside0.mk (blk_below (g := gb482) (o := .cells #[.slice Ao13 t478.length co13] 40 (0, 0)) (zk BK482.out) hb); have n5_ := Aside0.mk (blk_below (g := gb490) (o := .cells #[.slice Ao19 t486.length co19] 40 (0, 0)) (zk BK490.out) hb); have n6_ := Aside0.mk (below_step (by repeat (first | (with_reducible first | exact HB.out | apply below_alloc | apply pw_below_drewN | apply below_drew1 | refine below_set ?_ GE482.out | refine below_set ?_ GE490.out) | exact HB.out)) hb); clear HO_7; clear HO_483000; clear HO_491000; clear BK482; clear BK490; clear HB; have HO_7 := n0_; have HO_483000 := n1_; have HO_491000 := n2_; have HO494 := n3_; have BK482 := n4_; have BK490 := n5_; have HB := n6_; clear n0_ n1_ n2_ n3_ n4_ n5_ n6_; (try clear hb); (try clear hb2); (try clear hk); (try clear hi); (try clear ho0); obtain ⟨Ao37, co37, eo37⟩ := Kd.R_slice HO494.out; subst eo37) | ((with_reducible refine gate_callee (f := 29) rfl ?_); refine goesL_ (some 45) rfl rfl Try.func29 (by kernel_rfl) rfl #[.slice Ao16 t483.length co16, .slice Ao37 t492.length co37] rfl (by (try simp only [List.map_toArray, List.map_cons, List.map_nil]); first | done | rfl | (simp only [List.length_drop, List.length_take]; rfl)) ?_; (with_reducible refine (laws_eqIntS.calls kj7 _ _ t483 _ _ t492 t495 _ ?side1 ?side2 ?side3 ?side4 A34.out).mono ?_); (case side1 => repeat (first | exact (Kd.R_reads' HO_7.out).2.2 | (with_reducible refine Kd.C_alloc ?_ _) | (with_reducible refine Kd.C_drewN ?_ _) | (with_reducible refine Kd.C_drew ?_))); (case side2 => exact (Kd.R_reads' HO_7.out).2.1); (case side3 => repeat (first | exact (Kd.R_reads' HO494.out).2.2 | (with_reducible refine Kd.C_alloc ?_ _) | (with_reducible refine Kd.C_drewN ?_ _) | (with_reducible refine Kd.C_drew ?_))); (case side4 => exact (Kd.R_reads' HO494.out).2.1); rintro e w' ⟨rfl, ⟨nd, rfl⟩⟩; refine ⟨_, rfl, ?_⟩))
     (try simp only [Act.put, List.setIfInBounds_toArray, List.set_cons_zero, List.set_cons_succ])
     have H := HU35.out
     clear HU35
     by_cases c38 : t495 = true
     ·subst c38
      rw [zT] at H
      obtain ⟨⟨t496, t497⟩, A39, H⟩ := zb H
      replace H : (if t496 < 0 then (laws_FnExactFromElements.j1 kj7 l0 a1 t481 true t478 t486) else ((laws_eqSemigroup.f kj7 t486 t478).bind fun t498 => (if t498 = true then (laws_FnExactFromElements.j1 kj7 l0 a1 t481 (t489 != t481) t478 t486) else (laws_FnExactFromElements.j1 kj7 l0 a1 t481 true t478 t486)))) = some r := H
      have HC40 := Aside0.mk H
      clear H
      go_upto_region 12 with (first | ((with_reducible refine gate_callee (f := 30) rfl ?_); refine goesL_ (some 49) rfl rfl Try.func30 (by kernel_rfl) rfl #[.slice Ao16 t483.length co16, .int .i64 1] rfl (by (try simp only [List.map_toArray, List.map_cons, List.map_nil]); first | done | rfl | (simp only [List.length_drop, List.length_take]; rfl)) ?_; (with_reducible refine (laws_markIntS.calls kj7 (fun k_ => some k_ = (.slice Ao16 t483.length co16 : Value).ownBlock) (.slice Ao16 t483.length co16) t483 1 t496 t497 w _ ?side1 ?side2 A39.out).mono ?_); (case side1 => repeat (first | (with_reducible first | exact HB.out | apply below_alloc | apply pw_below_drewN | apply below_drew1 | refine below_set ?_ GE482.out | refine below_set ?_ GE490.out) | exact HB.out)); (case side2 => exact Kd.R_tight rfl HO_7.out); rintro e w41 ⟨rfl, hy0, hb, hkp⟩; refine ⟨_, rfl, ?_⟩; have n0_ := Aside0.mk (Kd.R_reok rfl hy0 (fun k_ e_ => HO_7.out.1 k_ e_)); have n1_ := Aside0.mk (Kd.R_mono (ok' := fun k_ => some k_ ≠ (.slice Ao16 t483.length co16 : Value).ownBlock ∧ some k_ ≠ (.slice Ao19 t486.length co19 : Value).ownBlock ∧ some k_ ≠ (.slice Ao37 t492.length co37 : Value).ownBlock) (Kd.R_keptB (HO_483000.out) hkp (fun k_ hk_ hs_ => by first | exact (hk_.1.1) hs_ | (revert hk_ hs_; simp +contextual))) (fun k_ hk_ => by first | exact ⟨hk_.1.1.1, hk_.1.1.2, hk_.1.2⟩ | (revert hk_; simp +contextual))); have n2_ := Aside0.mk (Kd.R_mono (ok' := fun k_ => some k_ ≠ (.slice Ao16 t483.length co16 : Value).ownBlock ∧ some k_ ≠ (.slice Ao13 t478.length co13 : Value).ownBlock ∧ some k_ ≠ (.slice Ao37 t492.length co37 : Value).ownBlock) (Kd.R_keptB (HO_491000.out) hkp (fun k_ hk_ hs_ => by first | exact (hk_.1.1) hs_ | (revert hk_ hs_; simp +contextual))) (fun k_ hk_ => by first | exact ⟨hk_.1.1.1, hk_.1.1.2, hk_.1.2⟩ | (revert hk_; simp +contextual))); have n3_ := Aside0.mk (blk_kept (zk BK482.out) hkp (fun hs_ => (fun e_ => (Kd.R_ne HO_7.out BK482.out (by decide)) e_) hs_)); have n4_ := Aside0.mk (blk_kept (zk BK490.out) hkp (fun hs_ => (fun e_ => (Kd.R_ne HO_7.out BK490.out (by decide)) e_) hs_)); have n5_ := Aside0.mk (Kd.R_mono (ok' := fun k_ => some k_ ≠ (.slice Ao16 t483.length co16 : Value).ownBlock ∧ some k_ ≠ (.slice Ao13 t478.length co13 : Value).ownBlock ∧ some k_ ≠ (.slice Ao19 t486.length co19 : Value).ownBlock) (Kd.R_keptB (HO494.out) hkp (fun k_ hk_ hs_ => by first | exact (hk_.1.1.2) hs_ | (revert hk_ hs_; simp +contextual))) (fun k_ hk_ => by first | exact ⟨hk_.1.1.1.2, hk_.1.1.2, hk_.1.2⟩ | (revert hk_; simp +contextual))); have n6_ := Aside0.mk (hb); clear HO_7; clear HO_483000; clear HO_491000; clear BK482; clear BK490; clear HO494; clear HB; have HO_7 := n0_; have HO_483000 := n1_; have HO_491000 := n2_; have BK482 := n3_; have BK490 := n4_; have HO494 := n5_; have HB := n6_; clear n0_ n1_ n2_ n3_ n4_ n5_ n6_; (try clear hb); (try clear hkp); (try clear hy0)))
      (try simp only [Act.put, List.setIfInBounds_toArray, List.set_cons_zero, List.set_cons_succ])
      go_cut [62] (fun v62 wc => ∃ (kq : Nat) (x62_39 : Bool), v62 = .bool x62_39 ∧ Aside0 (laws_FnExactFromElements.j1 kq l0 a1 t481 x62_39 t478 t486 = some r) ∧ Aside0 (kq ≤ kj7) ∧ Aside0 (Kd.R (Kd.int .i64) 3 wc w.heap.size (fun k_ => some k_ ≠ ((.slice Ao19 t486.length co19) : Value).ownBlock) (.slice Ao13 t478.length co13) t478) ∧ Aside0 (Kd.R (Kd.int .i64) 3 wc w.heap.size (fun k_ => some k_ ≠ ((.slice Ao13 t478.length co13) : Value).ownBlock) (.slice Ao19 t486.length co19) t486) ∧ Aside0 (wc.heap[gb482]? = some (.cells #[(.slice Ao13 t478.length co13)] 40 (0, 0))) ∧ Aside0 (wc.heap[gb490]? = some (.cells #[(.slice Ao19 t486.length co19)] 40 (0, 0))) ∧ Aside0 (Below w.heap.size w wc))
      case first =>
       have H := HC40.out
       clear HC40
       by_cases c42 : t496 < 0
       ·rw [if_pos c42] at H
        have c42b0 : decide (t496 < 0) = true := decide_eq_true c42
        clear c42
        (first | rw [c42b0] | rw [c42b1] | (simp only [i64_w, i32_w]; rw [c42b0]) | skip)
        have H' := Aside0.mk H
        clear H
        go_wp2
        go_meet
        case rel => exact ⟨_, (true), (by first | rfl | (simp; done) | (simp [*]; done)), H', ⟨by have := HJ7.out; first | omega | exact Nat.le_refl _⟩, ⟨zR (Kd.R_mono HO_483000.out (fun _ hk => hk.2.1))⟩, ⟨zR (Kd.R_mono HO_491000.out (fun _ hk => hk.2.1))⟩, ⟨zk BK482.out⟩, ⟨zk BK490.out⟩, ⟨by repeat (first | (with_reducible first | exact HB.out | apply below_alloc | apply pw_below_drewN | apply below_drew1 | refine below_set ?_ GE482.out | refine below_set ?_ GE490.out) | exact HB.out)⟩⟩
       ·rw [if_neg c42] at H
        have c42b0 : decide (t496 < 0) = false := decide_eq_false c42
        clear c42
        (first | rw [c42b0] | rw [c42b1] | (simp only [i64_w, i32_w]; rw [c42b0]) | skip)
        obtain ⟨t498, A43, H⟩ := zb H
        by_cases c44 : t498 = true
        ·subst c44
         rw [zT] at H
         have H' := Aside0.mk H
         clear H
         have hnb45 := NB490_482.out
         have hnc45 := NB482_490.out
         have hcz46_0 : w41.cell? ⟨gb490, 0, none⟩ = some (.slice Ao19 t486.length co19) := (blk_cell BK490.out 0).trans rfl
         have hfz46_0 := blk_frozen BK490.out 0
         have hcz47_0 : w41.cell? ⟨gb482, 0, none⟩ = some (.slice Ao13 t478.length co13) := (blk_cell BK482.out 0).trans rfl
         have hfz47_0 := blk_frozen BK482.out 0
         go_wp2_with (first | (go_at_call 58; (with_reducible refine (laws_eqSemigroup.calls kj7 _ _ t486 _ _ t478 true _ ?side1 ?side2 ?side3 ?side4 A43.out).mono ?_); (case side1 => repeat (first | exact (Kd.R_reads' HO_491000.out).2.2 | (with_reducible refine Kd.C_alloc ?_ _) | (with_reducible refine Kd.C_drewN ?_ _) | (with_reducible refine Kd.C_drew ?_))); (case side2 => exact (Kd.R_reads' HO_491000.out).2.1); (case side3 => repeat (first | exact (Kd.R_reads' HO_483000.out).2.2 | (with_reducible refine Kd.C_alloc ?_ _) | (with_reducible refine Kd.C_drewN ?_ _) | (with_reducible refine Kd.C_drew ?_))); (case side4 => exact (Kd.R_reads' HO_483000.out).2.1); rintro e w48 ⟨rfl, hb⟩; have n0_ := Aside0.mk (Kd.R_below (zR HO_7.out) hb); have n1_ := Aside0.mk (Kd.R_below (zR HO_483000.out) hb); have n2_ := Aside0.mk (Kd.R_below (zR HO_491000.out) hb); have n3_ := Aside0.mk (Kd.R_below (zR HO494.out) hb); have n4_ := Aside0.mk (blk_below (g := gb482) (o := .cells #[.slice Ao13 t478.length co13] 40 (0, 0)) (zk BK482.out) hb); have n5_ := Aside0.mk (blk_below (g := gb490) (o := .cells #[.slice Ao19 t486.length co19] 40 (0, 0)) (zk BK490.out) hb); have n6_ := Aside0.mk (below_step (by repeat (first | (with_reducible first | exact HB.out | apply below_alloc | apply pw_below_drewN | apply below_drew1 | refine below_set ?_ GE482.out | refine below_set ?_ GE490.out) | exact HB.out)) hb); clear HO_7; clear HO_483000; clear HO_491000; clear HO494; clear BK482; clear BK490; clear HB; have HO_7 := n0_; have HO_483000 := n1_; have HO_491000 := n2_; have HO494 := n3_; have BK482 := n4_; have BK490 := n5_; have HB := n6_; clear n0_ n1_ n2_ n3_ n4_ n5_ n6_; (try clear hb); (try clear hb2); (try clear hk); (try clear hi)))
         go_meet
         case rel => exact ⟨_, ((t489 != t481)), (by first | rfl | (simp; done) | (simp [*]; done)), H', ⟨by have := HJ7.out; first | omega | exact Nat.le_refl _⟩, ⟨zR (Kd.R_mono HO_483000.out (fun _ hk => hk.2.1))⟩, ⟨zR (Kd.R_mono HO_491000.out (fun _ hk => hk.2.1))⟩, ⟨zk BK482.out⟩, ⟨zk BK490.out⟩, ⟨by repeat (first | (with_reducible first | exact HB.out | apply below_alloc | apply pw_below_drewN | apply below_drew1 | refine below_set ?_ GE482.out | refine below_set ?_ GE490.out) | exact HB.out)⟩⟩
        ·replace c44 := Bool.eq_false_iff.mpr c44
         subst c44
         rw [zF] at H
         have H' := Aside0.mk H
         clear H
         have hnb49 := NB490_482.out
         have hnc49 := NB482_490.out
         have hcz50_0 : w41.cell? ⟨gb490, 0, none⟩ = some (.slice Ao19 t486.length co19) := (blk_cell BK490.out 0).trans rfl
         have hfz50_0 := blk_frozen BK490.out 0
         have hcz51_0 : w41.cell? ⟨gb482, 0, none⟩ = some (.slice Ao13 t478.length co13) := (blk_cell BK482.out 0).trans rfl
         have hfz51_0 := blk_frozen BK482.out 0
         go_wp2_with (first | (go_at_call 58; (with_reducible refine (laws_eqSemigroup.calls kj7 _ _ t486 _ _ t478 false _ ?side1 ?side2 ?side3 ?side4 A43.out).mono ?_); (case side1 => repeat (first | exact (Kd.R_reads' HO_491000.out).2.2 | (with_reducible refine Kd.C_alloc ?_ _) | (with_reducible refine Kd.C_drewN ?_ _) | (with_reducible refine Kd.C_drew ?_))); (case side2 => exact (Kd.R_reads' HO_491000.out).2.1); (case side3 => repeat (first | exact (Kd.R_reads' HO_483000.out).2.2 | (with_reducible refine Kd.C_alloc ?_ _) | (with_reducible refine Kd.C_drewN ?_ _) | (with_reducible refine Kd.C_drew ?_))); (case side4 => exact (Kd.R_reads' HO_483000.out).2.1); rintro e w52 ⟨rfl, hb⟩; have n0_ := Aside0.mk (Kd.R_below (zR HO_7.out) hb); have n1_ := Aside0.mk (Kd.R_below (zR HO_483000.out) hb); have n2_ := Aside0.mk (Kd.R_below (zR HO_491000.out) hb); have n3_ := Aside0.mk (Kd.R_below (zR HO494.out) hb); have n4_ := Aside0.mk (blk_below (g := gb482) (o := .cells #[.slice Ao13 t478.length co13] 40 (0, 0)) (zk BK482.out) hb); have n5_ := Aside0.mk (blk_below (g := gb490) (o := .cells #[.slice Ao19 t486.length co19] 40 (0, 0)) (zk BK490.out) hb); have n6_ := Aside0.mk (below_step (by repeat (first | (with_reducible first | exact HB.out | apply below_alloc | apply pw_below_drewN | apply below_drew1 | refine below_set ?_ GE482.out | refine below_set ?_ GE490.out) | exact HB.out)) hb); clear HO_7; clear HO_483000; clear HO_491000; clear HO494; clear BK482; clear BK490; clear HB; have HO_7 := n0_; have HO_483000 := n1_; have HO_491000 := n2_; have HO494 := n3_; have BK482 := n4_; have BK490 := n5_; have HB := n6_; clear n0_ n1_ n2_ n3_ n4_ n5_ n6_; (try clear hb); (try clear hb2); (try clear hk); (try clear hi)))
         go_meet
         case rel => exact ⟨_, (true), (by first | rfl | (simp; done) | (simp [*]; done)), H', ⟨by have := HJ7.out; first | omega | exact Nat.le_refl _⟩, ⟨zR (Kd.R_mono HO_483000.out (fun _ hk => hk.2.1))⟩, ⟨zR (Kd.R_mono HO_491000.out (fun _ hk => hk.2.1))⟩, ⟨zk BK482.out⟩, ⟨zk BK490.out⟩, ⟨by repeat (first | (with_reducible first | exact HB.out | apply below_alloc | apply pw_below_drewN | apply below_drew1 | refine below_set ?_ GE482.out | refine below_set ?_ GE490.out) | exact HB.out)⟩⟩
      case rest =>
       clear HC40
       try clear c2
       try clear p2
       try clear c3
       try clear c3b0
       try clear c3b1
       try clear c4
       try clear c5
       try clear c9
       try clear c20
       try clear c23
       try clear c24
       try clear c27
       try clear c28
       try clear c29
       try clear c30
       try clear c32
       try clear c38
       try clear c42
       try clear c42b0
       try clear c44
       try clear c45
       try clear c49
       try clear hcz14_0
       try clear hcz21_0
       try clear hcz25_0
       try clear hcz26_0
       try clear hcz29_0
       try clear hcz30_0
       try clear hcz46_0
       try clear hcz47_0
       try clear hcz50_0
       try clear hcz51_0
       try clear hfz14_0
       try clear hfz21_0
       try clear hfz25_0
       try clear hfz26_0
       try clear hfz29_0
       try clear hfz30_0
       try clear hfz46_0
       try clear hfz47_0
       try clear hfz50_0
       try clear hfz51_0
       try clear p2
       obtain ⟨kq, x62_39, rfl, HA, HJ39, HO_483000, HO_491000, BK482, BK490, HB⟩ := hcut
       cases kq with
       | zero => exact absurd HA.out (by simp [laws_FnExactFromElements.j1])
       | succ kj39 =>
        have H := HA.out
        clear HA
        simp only [laws_FnExactFromElements.j1] at H
        by_cases c53 : x62_39 = true
        ·subst c53
         rw [zT] at H
         obtain rfl := Option.some.inj H
         go_wp2
         go_ret
         exact ⟨by first | rfl | (simp [errW_none, errW_some] <;> rfl) | (simp [*, errW_none, errW_some] <;> rfl), by repeat (first | (with_reducible first | exact HB.out | apply below_alloc | apply pw_below_drewN | apply below_drew1 | refine below_set ?_ GE482.out | refine below_set ?_ GE490.out) | exact HB.out)⟩
        ·replace c53 := Bool.eq_false_iff.mpr c53
         subst c53
         rw [zF] at H
         obtain ⟨⟨t499, t500⟩, A54, H⟩ := zb H
         replace H : ((laws_heldSemigroup.f kj39 t500 1).bind fun t501 => (if t501 < 0 then (some false) else (if t501 = t499 then ((laws_toIntS.f kj39 l0).bind fun t502 => ((impl_FromElements.f kj39 t502 a1).bind fun bt505 => ((laws_eqSemigroup.f kj39 bt505.1 t478).bind fun t510 => (if t510 = true then (laws_FnExactFromElements.j2 kj39 t499 (bt505.2 != t481) t500) else (laws_FnExactFromElements.j2 kj39 t499 true t500))))) else (some false)))) = some r := H
         obtain ⟨t501, A55, H⟩ := zb H
         have HU56 := Aside0.mk H
         clear H
         have hnb57 := NB490_482.out
         have hnc57 := NB482_490.out
         have hcz58_0 : wc.cell? ⟨gb490, 0, none⟩ = some (.slice Ao19 t486.length co19) := (blk_cell BK490.out 0).trans rfl
         have hfz58_0 := blk_frozen BK490.out 0
         go_upto_if 70 with (first | ((with_reducible refine gate_callee (f := 59) rfl ?_); refine goesL_ (some 65) rfl rfl Try.func59 (by kernel_rfl) rfl #[.agg #[.slice Ao19 t486.length co19], .int .i64 1] rfl (by (try simp only [List.map_toArray, List.map_cons, List.map_nil]); first | done | rfl | (simp only [List.length_drop, List.length_take]; rfl)) ?_; (with_reducible refine (laws_markSemigroup.calls kj39 (fun k_ => some k_ = (.slice Ao19 t486.length co19 : Value).ownBlock) (.slice Ao19 t486.length co19) t486 1 t499 t500 w _ ?side1 ?side2 A54.out).mono ?_); (case side1 => repeat (first | (with_reducible first | exact HB.out | apply below_alloc | apply pw_below_drewN | apply below_drew1 | refine below_set ?_ GE482.out | refine below_set ?_ GE490.out) | exact HB.out)); (case side2 => exact Kd.R_tight rfl HO_491000.out); rintro e w59 ⟨rfl, hy0, hb, hkp⟩; refine ⟨_, rfl, ?_⟩; have n0_ := Aside0.mk (Kd.R_mono (ok' := fun k_ => some k_ ≠ (.slice Ao19 t486.length co19 : Value).ownBlock) (Kd.R_keptB (HO_483000.out) hkp (fun k_ hk_ hs_ => by first | exact (hk_) hs_ | (revert hk_ hs_; simp +contextual))) (fun k_ hk_ => hk_.1)); have n1_ := Aside0.mk (Kd.R_reok rfl hy0 (fun k_ e_ => HO_491000.out.1 k_ e_)); have n2_ := Aside0.mk (blk_kept (zk BK482.out) hkp (fun hs_ => (fun e_ => (Kd.R_ne HO_491000.out BK482.out (by decide)) e_) hs_)); have n3_ := Aside0.mk (blk_kept (zk BK490.out) hkp (fun hs_ => (fun e_ => (Kd.R_ne HO_491000.out BK490.out (by decide)) e_) hs_)); have n4_ := Aside0.mk (hb); clear HO_483000; clear HO_491000; clear BK482; clear BK490; clear HB; have HO_483000 := n0_; have HO_491000 := n1_; have BK482 := n2_; have BK490 := n3_; have HB := n4_; clear n0_ n1_ n2_ n3_ n4_; (try clear hb); (try clear hkp); (try clear hy0); have hcz60_0 : w59.cell? ⟨gb490, 0, none⟩ = some (.slice Ao19 t486.length co19) := (blk_cell BK490.out 0).trans rfl; have hfz60_0 := blk_frozen BK490.out 0) | ((with_reducible refine gate_callee (f := 60) rfl ?_); refine goesL_ (some 68) rfl rfl Try.func60 (by kernel_rfl) rfl #[.agg #[.slice Ao19 t500.length co19], .int .i64 1] rfl (by (try simp only [List.map_toArray, List.map_cons, List.map_nil]); first | done | (rw [show t500.length = t486.length from (Kd.R_reads' HO_491000.out).1.symm] <;> rfl) | rfl | (simp only [List.length_drop, List.length_take]; rfl)) ?_; (with_reducible refine (laws_heldSemigroup.calls kj39 _ _ t500 1 t501 _ ?side1 ?side2 A55.out).mono ?_); (case side1 => repeat (first | exact (Kd.R_reads' HO_491000.out).2.2 | (with_reducible refine Kd.C_alloc ?_ _) | (with_reducible refine Kd.C_drewN ?_ _) | (with_reducible refine Kd.C_drew ?_))); (case side2 => rw [show t500.length = t486.length from (Kd.R_reads' HO_491000.out).1.symm]; exact (Kd.R_reads' HO_491000.out).2.1); rintro e w61 ⟨rfl, hb⟩; refine ⟨_, rfl, ?_⟩; have n0_ := Aside0.mk (Kd.R_below (zR HO_483000.out) hb); have n1_ := Aside0.mk (Kd.R_below (zR HO_491000.out) hb); have n2_ := Aside0.mk (blk_below (g := gb482) (o := .cells #[.slice Ao13 t478.length co13] 40 (0, 0)) (zk BK482.out) hb); have n3_ := Aside0.mk (blk_below (g := gb490) (o := .cells #[.slice Ao19 t486.length co19] 40 (0, 0)) (zk BK490.out) hb); have n4_ := Aside0.mk (below_step (by repeat (first | (with_reducible first | exact HB.out | apply below_alloc | apply pw_below_drewN | apply below_drew1 | refine below_set ?_ GE482.out | refine below_set ?_ GE490.out) | exact HB.out)) hb); clear HO_483000; clear HO_491000; clear BK482; clear BK490; clear HB; have HO_483000 := n0_; have HO_491000 := n1_; have BK482 := n2_; have BK490 := n3_; have HB := n4_; clear n0_ n1_ n2_ n3_ n4_; (try clear hb); (try clear hb2); (try clear hk); (try clear hi)))
         (try simp only [Act.put, List.setIfInBounds_toArray, List.set_cons_zero, List.set_cons_succ])
         have H := HU56.out
         clear HU56
         by_cases c62 : t501 < 0
         ·rw [if_pos c62] at H
          have c62b0 : decide (t501 < 0) = true := decide_eq_true c62
          clear c62
          (first | rw [c62b0] | rw [c62b1] | (simp only [i64_w, i32_w]; rw [c62b0]) | skip)
          obtain rfl := Option.some.inj H
          go_wp2
          go_ret
          exact ⟨by first | rfl | (simp [errW_none, errW_some] <;> rfl) | (simp [*, errW_none, errW_some] <;> rfl), by repeat (first | (with_reducible first | exact HB.out | apply below_alloc | apply pw_below_drewN | apply below_drew1 | refine below_set ?_ GE482.out | refine below_set ?_ GE490.out) | exact HB.out)⟩
         ·rw [if_neg c62] at H
          have c62b0 : decide (t501 < 0) = false := decide_eq_false c62
          clear c62
          (first | rw [c62b0] | rw [c62b1] | (simp only [i64_w, i32_w]; rw [c62b0]) | skip)
          by_cases c63 : t501 = t499
          ·rw [if_pos c63] at H
           have c63b0 : (t501 == t499) = true := beq_iff_eq.mpr c63
           have c63b1 : (t501 != t499) = false := bne_eq_false_iff_eq.mpr c63
           clear c63
           obtain ⟨t502, A64, H⟩ := zb H
           obtain ⟨⟨t505, t508⟩, A65, H⟩ := zb H
           replace H : ((laws_eqSemigroup.f kj39 t505 t478).bind fun t510 => (if t510 = true then (laws_FnExactFromElements.j2 kj39 t499 (t508 != t481) t500) else (laws_FnExactFromElements.j2 kj39 t499 true t500))) = some r := H
           have HC66 := Aside0.mk H
           clear H
           go_upto_region 23 with (first | ((with_reducible refine gate_callee (f := 27) rfl ?_); refine goesL_ (some 76) rfl rfl Try.func27 (by kernel_rfl) rfl #[.slice A0 l0.length c0] rfl (by (try simp only [List.map_toArray, List.map_cons, List.map_nil]); first | done | rfl | (simp only [List.length_drop, List.length_take]; rfl)) ?_; (with_reducible refine (laws_toIntS.calls kj39 _ _ l0 t502 _ ?side1 ?side2 A64.out).mono ?_); (case side1 => exact zC (Kd.C_below HR0.out HB.out)); (case side2 => exact HC0.out); rintro e w67 ⟨v503, rfl, ho0, hb⟩; refine ⟨_, rfl, ?_⟩; have n0_ := Aside0.mk (Kd.R_elder' (zR HO_483000.out) (Kd.R_base ho0) hb); have n1_ := Aside0.mk (Kd.R_elder' (zR HO_491000.out) (Kd.R_base ho0) hb); have n2_ := Aside0.mk (Kd.R_lower (Kd.R_new' (Kd.R_new' ho0 (Kd.R_lt (zR HO_483000.out))) (Kd.R_lt (zR HO_491000.out))) (below_size (by repeat (first | (with_reducible first | exact HB.out | apply below_alloc | apply pw_below_drewN | apply below_drew1 | refine below_set ?_ GE482.out | refine below_set ?_ GE490.out) | exact HB.out)))); have n3_ := Aside0.mk (blk_below (g := gb482) (o := .cells #[.slice Ao13 t478.length co13] 40 (0, 0)) (zk BK482.out) hb); have n4_ := Aside0.mk (blk_below (g := gb490) (o := .cells #[.slice Ao19 t486.length co19] 40 (0, 0)) (zk BK490.out) hb); have n5_ := Aside0.mk (below_step (by repeat (first | (with_reducible first | exact HB.out | apply below_alloc | apply pw_below_drewN | apply below_drew1 | refine below_set ?_ GE482.out | refine below_set ?_ GE490.out) | exact HB.out)) hb); clear HO_483000; clear HO_491000; clear BK482; clear BK490; clear HB; have HO_483000 := n0_; have HO_491000 := n1_; have HO504 := n2_; have BK482 := n3_; have BK490 := n4_; have HB := n5_; clear n0_ n1_ n2_ n3_ n4_ n5_; (try clear hb); (try clear hb2); (try clear hk); (try clear hi); (try clear ho0); obtain ⟨Ao68, co68, eo68⟩ := Kd.R_slice HO504.out; subst eo68) | ((with_reducible refine gate_callee (f := 57) rfl ?_); refine goesL_ (some 78) rfl rfl Try.func57 (by kernel_rfl) rfl #[.slice Ao68 t502.length co68, .int .i64 a1] rfl (by (try simp only [List.map_toArray, List.map_cons, List.map_nil]); first | done | rfl | (simp only [List.length_drop, List.length_take]; rfl)) ?_; (with_reducible refine (impl_FromElements.calls kj39 _ _ t502 a1 t505 t508 _ ?side1 ?side2 A65.out).mono ?_); (case side1 => repeat (first | exact (Kd.R_reads' HO504.out).2.2 | (with_reducible refine Kd.C_alloc ?_ _) | (with_reducible refine Kd.C_drewN ?_ _) | (with_reducible refine Kd.C_drew ?_))); (case side2 => exact (Kd.R_reads' HO504.out).2.1); rintro e w69 ⟨v506, rfl, ho0, hb⟩; refine ⟨_, rfl, ?_⟩; have n0_ := Aside0.mk (Kd.R_elder' (zR HO_483000.out) (Kd.R_base ho0) hb); have n1_ := Aside0.mk (Kd.R_elder' (zR HO_491000.out) (Kd.R_base ho0) hb); have n2_ := Aside0.mk (Kd.R_elder' (zR HO504.out) (Kd.R_base ho0) hb); have n3_ := Aside0.mk (Kd.R_lower (Kd.R_new' (Kd.R_new' (Kd.R_new' ho0 (Kd.R_lt (zR HO_483000.out))) (Kd.R_lt (zR HO_491000.out))) (Kd.R_lt (zR HO504.out))) (below_size (by repeat (first | (with_reducible first | exact HB.out | apply below_alloc | apply pw_below_drewN | apply below_drew1 | refine below_set ?_ GE482.out | refine below_set ?_ GE490.out) | exact HB.out)))); have n4_ := Aside0.mk (blk_below (g := gb482) (o := .cells #[.slice Ao13 t478.length co13] 40 (0, 0)) (zk BK482.out) hb); have n5_ := Aside0.mk (blk_below (g := gb490) (o := .cells #[.slice Ao19 t486.length co19] 40 (0, 0)) (zk BK490.out) hb); have n6_ := Aside0.mk (below_step (by repeat (first | (with_reducible first | exact HB.out | apply below_alloc | apply pw_below_drewN | apply below_drew1 | refine below_set ?_ GE482.out | refine below_set ?_ GE490.out) | exact HB.out)) hb); clear HO_483000; clear HO_491000; clear HO504; clear BK482; clear BK490; clear HB; have HO_483000 := n0_; have HO_491000 := n1_; have HO504 := n2_; have HO507 := n3_; have BK482 := n4_; have BK490 := n5_; have HB := n6_; clear n0_ n1_ n2_ n3_ n4_ n5_ n6_; (try clear hb); (try clear hb2); (try clear hk); (try clear hi); (try clear ho0)) | ((with_reducible refine gate_dst (N := 13) rfl ?_); refine box_event ?hg (N := 13) ?hd (cs := #[.slice none 0 0]) (t := 40) ?hr ?_; (case hd => rfl); (case hg => rfl); (case hr => first | (go_simp; done) | (go_simp; rfl)); intro gb509 hg w70 hbox hb; have n0_ := Aside0.mk (Kd.R_below (zR HO_483000.out) hb); have n1_ := Aside0.mk (Kd.R_below (zR HO_491000.out) hb); have n2_ := Aside0.mk (Kd.R_below (zR HO504.out) hb); have n3_ := Aside0.mk (Kd.R_below (zR HO507.out) hb); have n4_ := Aside0.mk (blk_below (g := gb482) (o := .cells #[.slice Ao13 t478.length co13] 40 (0, 0)) (zk BK482.out) hb); have n5_ := Aside0.mk (blk_below (g := gb490) (o := .cells #[.slice Ao19 t486.length co19] 40 (0, 0)) (zk BK490.out) hb); have n6_ := Aside0.mk (below_step (by repeat (first | (with_reducible first | exact HB.out | apply below_alloc | apply pw_below_drewN | apply below_drew1 | refine below_set ?_ GE482.out | refine below_set ?_ GE490.out) | exact HB.out)) hb); have n7_ := Aside0.mk (hbox); have n8_ := Aside0.mk ((by rw [hg]; exact (below_size (by repeat (first | (with_reducible first | exact HB.out | apply below_alloc | apply pw_below_drewN | apply below_drew1 | refine below_set ?_ GE482.out | refine below_set ?_ GE490.out) | exact HB.out))) : w.heap.size ≤ gb509)); have n9_ := Aside0.mk ((by rw [hg]; exact (below_size (by repeat (first | (with_reducible first | exact HB.out | apply below_alloc | apply pw_below_drewN | apply below_drew1 | refine below_set ?_ GE482.out | refine below_set ?_ GE490.out) | exact HB.out))) : w.heap.size ≤ gb509)); have n10_ := Aside0.mk ((by rw [hg]; exact Nat.ne_of_lt (blk_lt (g := gb482) (o := .cells #[.slice Ao13 t478.length co13] 40 (0, 0)) (zk BK482.out)) : gb482 ≠ gb509)); have n11_ := Aside0.mk ((by rw [hg]; exact Nat.ne_of_gt (blk_lt (g := gb482) (o := .cells #[.slice Ao13 t478.length co13] 40 (0, 0)) (zk BK482.out)) : gb509 ≠ gb482)); have n12_ := Aside0.mk ((by rw [hg]; exact Nat.ne_of_lt (blk_lt (g := gb490) (o := .cells #[.slice Ao19 t486.length co19] 40 (0, 0)) (zk BK490.out)) : gb490 ≠ gb509)); have n13_ := Aside0.mk ((by rw [hg]; exact Nat.ne_of_gt (blk_lt (g := gb490) (o := .cells #[.slice Ao19 t486.length co19] 40 (0, 0)) (zk BK490.out)) : gb509 ≠ gb490)); clear HO_483000; clear HO_491000; clear HO504; clear HO507; clear BK482; clear BK490; clear HB; have HO_483000 := n0_; have HO_491000 := n1_; have HO504 := n2_; have HO507 := n3_; have BK482 := n4_; have BK490 := n5_; have HB := n6_; have BK509 := n7_; have GW509 := n8_; have GE509 := n9_; have NB482_509 := n10_; have NB509_482 := n11_; have NB490_509 := n12_; have NB509_490 := n13_; clear n0_ n1_ n2_ n3_ n4_ n5_ n6_ n7_ n8_ n9_ n10_ n11_ n12_ n13_; clear hb hbox hg; obtain ⟨Ao71, co71, eo71⟩ := Kd.R_slice HO507.out; subst eo71; have hnb72 := NB509_482.out; have hnc72 := NB482_509.out; have hnb73 := NB509_490.out; have hnc73 := NB490_509.out; have hcz74_0 : w70.cell? ⟨gb509, 0, none⟩ = some (.slice none 0 0) := (blk_cell BK509.out 0).trans rfl; have hfz74_0 := blk_frozen BK509.out 0))
           (try simp only [Act.put, List.setIfInBounds_toArray, List.set_cons_zero, List.set_cons_succ])
           go_cut [89] (fun v89 wc => ∃ (kq : Nat) (x89_65 : Bool), v89 = .bool x89_65 ∧ Aside0 (laws_FnExactFromElements.j2 kq t499 x89_65 t500 = some r) ∧ Aside0 (kq ≤ kj39) ∧ Aside0 (Kd.R (Kd.int .i64) 3 wc w.heap.size (fun k_ => some k_ ≠ ((.slice Ao19 t486.length co19) : Value).ownBlock ∧ some k_ ≠ ((.slice Ao71 t505.length co71) : Value).ownBlock) (.slice Ao13 t478.length co13) t478) ∧ Aside0 (Kd.R (Kd.int .i64) 3 wc w.heap.size (fun k_ => some k_ ≠ ((.slice Ao13 t478.length co13) : Value).ownBlock ∧ some k_ ≠ ((.slice Ao71 t505.length co71) : Value).ownBlock) (.slice Ao19 t486.length co19) t500) ∧ Aside0 (Kd.R (Kd.int .i64) 3 wc w.heap.size (fun k_ => some k_ ≠ ((.slice Ao13 t478.length co13) : Value).ownBlock ∧ some k_ ≠ ((.slice Ao19 t486.length co19) : Value).ownBlock) (.slice Ao71 t505.length co71) t505) ∧ Aside0 (wc.heap[gb482]? = some (.cells #[(.slice Ao13 t478.length co13)] 40 (0, 0))) ∧ Aside0 (wc.heap[gb490]? = some (.cells #[(.slice Ao19 t486.length co19)] 40 (0, 0))) ∧ Aside0 (wc.heap[gb509]? = some (.cells #[(.slice Ao71 t505.length co71)] 40 (0, 0))) ∧ Aside0 (Below w.heap.size w wc))
           case first =>
            have H := HC66.out
            clear HC66
            obtain ⟨t510, A75, H⟩ := zb H
            by_cases c76 : t510 = true
            ·subst c76
             rw [zT] at H
             have H' := Aside0.mk H
             clear H
             have hnb77 := NB509_482.out
             have hnc77 := NB482_509.out
             have hnb78 := NB509_490.out
             have hnc78 := NB490_509.out
             have hcz79_0 : w70.cell? ⟨gb509, 0, none⟩ = some (.slice none 0 0) := (blk_cell BK509.out 0).trans rfl
             have hfz79_0 := blk_frozen BK509.out 0
             have hnb80 := NB482_490.out
             have hnc80 := NB490_482.out
             have hcz81_0 : w70.cell? ⟨gb482, 0, none⟩ = some (.slice Ao13 t478.length co13) := (blk_cell BK482.out 0).trans rfl
             have hfz81_0 := blk_frozen BK482.out 0
             go_wp2_with (first | ((with_reducible refine gate_callee (f := 58) rfl ?_); refine goesL_ (some 83) rfl rfl Try.func58 (by kernel_rfl) rfl #[.agg #[.slice Ao71 t505.length co71], .agg #[.slice Ao13 t478.length co13]] rfl (by (try simp only [List.map_toArray, List.map_cons, List.map_nil]); first | done | rfl | (simp only [List.length_drop, List.length_take]; rfl)) ?_; (with_reducible refine (laws_eqSemigroup.calls kj39 _ _ t505 _ _ t478 true _ ?side1 ?side2 ?side3 ?side4 A75.out).mono ?_); (case side1 => refine (Kd.R_reads' (e := 3) (base := w.heap.size) (ok := fun k_ => (((True ∧ some k_ ≠ (.slice Ao13 t478.length co13 : Value).ownBlock) ∧ some k_ ≠ (.slice Ao19 t486.length co19 : Value).ownBlock) ∧ some k_ ≠ (.slice Ao68 t502.length co68 : Value).ownBlock)) (n := t505.length) (c := co71) ?_).2.2; exact (zR ((Kd.R_mono (Kd.R_far (p := ⟨gb509, 0, none⟩) (Kd.R_types HO507.out BK509.out (by decide)) (fun _ hk => hk.2) (.slice Ao71 t505.length co71)) (fun _ h_ => h_.1))))); (case side2 => exact (Kd.R_reads' HO507.out).2.1); (case side3 => refine (Kd.R_reads' (e := 3) (base := w.heap.size) (ok := fun k_ => ((some k_ ≠ (.slice Ao19 t486.length co19 : Value).ownBlock ∧ some k_ ≠ (.slice Ao68 t502.length co68 : Value).ownBlock) ∧ some k_ ≠ (.slice Ao71 t505.length co71 : Value).ownBlock)) (n := t478.length) (c := co13) ?_).2.2; exact (zR ((Kd.R_mono (Kd.R_far (p := ⟨gb509, 0, none⟩) (Kd.R_types HO_483000.out BK509.out (by decide)) (fun _ hk => hk.2) (.slice Ao71 t505.length co71)) (fun _ h_ => h_.1))))); (case side4 => exact (Kd.R_reads' HO_483000.out).2.1); rintro e w82 ⟨rfl, hb⟩; refine ⟨_, rfl, ?_⟩; have n0_ := Aside0.mk (Kd.R_below (zR ((Kd.R_mono (Kd.R_far (p := ⟨gb509, 0, none⟩) (Kd.R_types HO_483000.out BK509.out (by decide)) (fun _ hk => hk.2) (.slice Ao71 t505.length co71)) (fun _ h_ => h_.1)))) hb); have n1_ := Aside0.mk (Kd.R_below (zR ((Kd.R_mono (Kd.R_far (p := ⟨gb509, 0, none⟩) (Kd.R_types HO_491000.out BK509.out (by decide)) (fun _ hk => hk.2) (.slice Ao71 t505.length co71)) (fun _ h_ => h_.1)))) hb); have n2_ := Aside0.mk (Kd.R_below (zR ((Kd.R_mono (Kd.R_far (p := ⟨gb509, 0, none⟩) (Kd.R_types HO504.out BK509.out (by decide)) (fun _ hk => hk.2) (.slice Ao71 t505.length co71)) (fun _ h_ => h_.1)))) hb); have n3_ := Aside0.mk (Kd.R_below (zR ((Kd.R_mono (Kd.R_far (p := ⟨gb509, 0, none⟩) (Kd.R_types HO507.out BK509.out (by decide)) (fun _ hk => hk.2) (.slice Ao71 t505.length co71)) (fun _ h_ => h_.1)))) hb); have n4_ := Aside0.mk (blk_below (g := gb482) (o := .cells #[.slice Ao13 t478.length co13] 40 (0, 0)) (by (with_reducible repeat (first | refine blk_drewN ?_ _ | refine blk_drew ?_ | refine blk_alloc ?_ _)); refine blk_far ?_ NB482_509.out _; (with_reducible repeat (first | refine blk_drewN ?_ _ | refine blk_drew ?_ | refine blk_alloc ?_ _)); exact BK482.out) hb); have n5_ := Aside0.mk (blk_below (g := gb490) (o := .cells #[.slice Ao19 t486.length co19] 40 (0, 0)) (by (with_reducible repeat (first | refine blk_drewN ?_ _ | refine blk_drew ?_ | refine blk_alloc ?_ _)); refine blk_far ?_ NB490_509.out _; (with_reducible repeat (first | refine blk_drewN ?_ _ | refine blk_drew ?_ | refine blk_alloc ?_ _)); exact BK490.out) hb); have n6_ := Aside0.mk (blk_below (g := gb509) (o := .cells #[.slice Ao71 t505.length co71] 40 (0, 0)) (by (with_reducible repeat (first | refine blk_drewN ?_ _ | refine blk_drew ?_ | refine blk_alloc ?_ _)); refine blk_put (cs := #[.slice none 0 0]) ?_ 0 _ rfl; (with_reducible repeat (first | refine blk_drewN ?_ _ | refine blk_drew ?_ | refine blk_alloc ?_ _)); exact BK509.out) hb); have n7_ := Aside0.mk (below_step (by repeat (first | (with_reducible first | exact HB.out | apply below_alloc | apply pw_below_drewN | apply below_drew1 | refine below_set ?_ GE482.out | refine below_set ?_ GE490.out | refine below_set ?_ GE509.out) | exact HB.out)) hb); clear HO_483000; clear HO_491000; clear HO504; clear HO507; clear BK482; clear BK490; clear BK509; clear HB; have HO_483000 := n0_; have HO_491000 := n1_; have HO504 := n2_; have HO507 := n3_; have BK482 := n4_; have BK490 := n5_; have BK509 := n6_; have HB := n7_; clear n0_ n1_ n2_ n3_ n4_ n5_ n6_ n7_; (try clear hb); (try clear hb2); (try clear hk); (try clear hi)))
             go_meet
             case rel => exact ⟨_, ((t508 != t481)), (by first | rfl | (simp; done) | (simp [*]; done)), H', ⟨by have := HJ7.out; have := HJ39.out; first | omega | exact Nat.le_refl _⟩, ⟨zR (Kd.R_mono HO_483000.out (fun _ hk => by first | exact ⟨hk.1.1, hk.2⟩ | (revert hk; simp +contextual)))⟩, ⟨zR (Kd.R_mono HO_491000.out (fun _ hk => by first | exact ⟨hk.1.1, hk.2⟩ | (revert hk; simp +contextual)))⟩, ⟨zR (Kd.R_mono HO507.out (fun _ hk => by first | exact ⟨hk.1.1.2, hk.1.2⟩ | (revert hk; simp +contextual)))⟩, ⟨zk BK482.out⟩, ⟨zk BK490.out⟩, ⟨zk BK509.out⟩, ⟨by repeat (first | (with_reducible first | exact HB.out | apply below_alloc | apply pw_below_drewN | apply below_drew1 | refine below_set ?_ GE482.out | refine below_set ?_ GE490.out | refine below_set ?_ GE509.out) | exact HB.out)⟩⟩
            ·replace c76 := Bool.eq_false_iff.mpr c76
             subst c76
             rw [zF] at H
             have H' := Aside0.mk H
             clear H
             have hnb83 := NB509_482.out
             have hnc83 := NB482_509.out
             have hnb84 := NB509_490.out
             have hnc84 := NB490_509.out
             have hcz85_0 : w70.cell? ⟨gb509, 0, none⟩ = some (.slice none 0 0) := (blk_cell BK509.out 0).trans rfl
             have hfz85_0 := blk_frozen BK509.out 0
             have hnb86 := NB482_490.out
             have hnc86 := NB490_482.out
             have hcz87_0 : w70.cell? ⟨gb482, 0, none⟩ = some (.slice Ao13 t478.length co13) := (blk_cell BK482.out 0).trans rfl
             have hfz87_0 := blk_frozen BK482.out 0
             go_wp2_with (first | ((with_reducible refine gate_callee (f := 58) rfl ?_); refine goesL_ (some 83) rfl rfl Try.func58 (by kernel_rfl) rfl #[.agg #[.slice Ao71 t505.length co71], .agg #[.slice Ao13 t478.length co13]] rfl (by (try simp only [List.map_toArray, List.map_cons, List.map_nil]); first | done | rfl | (simp only [List.length_drop, List.length_take]; rfl)) ?_; (with_reducible refine (laws_eqSemigroup.calls kj39 _ _ t505 _ _ t478 false _ ?side1 ?side2 ?side3 ?side4 A75.out).mono ?_); (case side1 => refine (Kd.R_reads' (e := 3) (base := w.heap.size) (ok := fun k_ => (((True ∧ some k_ ≠ (.slice Ao13 t478.length co13 : Value).ownBlock) ∧ some k_ ≠ (.slice Ao19 t486.length co19 : Value).ownBlock) ∧ some k_ ≠ (.slice Ao68 t502.length co68 : Value).ownBlock)) (n := t505.length) (c := co71) ?_).2.2; exact (zR ((Kd.R_mono (Kd.R_far (p := ⟨gb509, 0, none⟩) (Kd.R_types HO507.out BK509.out (by decide)) (fun _ hk => hk.2) (.slice Ao71 t505.length co71)) (fun _ h_ => h_.1))))); (case side2 => exact (Kd.R_reads' HO507.out).2.1); (case side3 => refine (Kd.R_reads' (e := 3) (base := w.heap.size) (ok := fun k_ => ((some k_ ≠ (.slice Ao19 t486.length co19 : Value).ownBlock ∧ some k_ ≠ (.slice Ao68 t502.length co68 : Value).ownBlock) ∧ some k_ ≠ (.slice Ao71 t505.length co71 : Value).ownBlock)) (n := t478.length) (c := co13) ?_).2.2; exact (zR ((Kd.R_mono (Kd.R_far (p := ⟨gb509, 0, none⟩) (Kd.R_types HO_483000.out BK509.out (by decide)) (fun _ hk => hk.2) (.slice Ao71 t505.length co71)) (fun _ h_ => h_.1))))); (case side4 => exact (Kd.R_reads' HO_483000.out).2.1); rintro e w88 ⟨rfl, hb⟩; refine ⟨_, rfl, ?_⟩; have n0_ := Aside0.mk (Kd.R_below (zR ((Kd.R_mono (Kd.R_far (p := ⟨gb509, 0, none⟩) (Kd.R_types HO_483000.out BK509.out (by decide)) (fun _ hk => hk.2) (.slice Ao71 t505.length co71)) (fun _ h_ => h_.1)))) hb); have n1_ := Aside0.mk (Kd.R_below (zR ((Kd.R_mono (Kd.R_far (p := ⟨gb509, 0, none⟩) (Kd.R_types HO_491000.out BK509.out (by decide)) (fun _ hk => hk.2) (.slice Ao71 t505.length co71)) (fun _ h_ => h_.1)))) hb); have n2_ := Aside0.mk (Kd.R_below (zR ((Kd.R_mono (Kd.R_far (p := ⟨gb509, 0, none⟩) (Kd.R_types HO504.out BK509.out (by decide)) (fun _ hk => hk.2) (.slice Ao71 t505.length co71)) (fun _ h_ => h_.1)))) hb); have n3_ := Aside0.mk (Kd.R_below (zR ((Kd.R_mono (Kd.R_far (p := ⟨gb509, 0, none⟩) (Kd.R_types HO507.out BK509.out (by decide)) (fun _ hk => hk.2) (.slice Ao71 t505.length co71)) (fun _ h_ => h_.1)))) hb); have n4_ := Aside0.mk (blk_below (g := gb482) (o := .cells #[.slice Ao13 t478.length co13] 40 (0, 0)) (by (with_reducible repeat (first | refine blk_drewN ?_ _ | refine blk_drew ?_ | refine blk_alloc ?_ _)); refine blk_far ?_ NB482_509.out _; (with_reducible repeat (first | refine blk_drewN ?_ _ | refine blk_drew ?_ | refine blk_alloc ?_ _)); exact BK482.out) hb); have n5_ := Aside0.mk (blk_below (g := gb490) (o := .cells #[.slice Ao19 t486.length co19] 40 (0, 0)) (by (with_reducible repeat (first | refine blk_drewN ?_ _ | refine blk_drew ?_ | refine blk_alloc ?_ _)); refine blk_far ?_ NB490_509.out _; (with_reducible repeat (first | refine blk_drewN ?_ _ | refine blk_drew ?_ | refine blk_alloc ?_ _)); exact BK490.out) hb); have n6_ := Aside0.mk (blk_below (g := gb509) (o := .cells #[.slice Ao71 t505.length co71] 40 (0, 0)) (by (with_reducible repeat (first | refine blk_drewN ?_ _ | refine blk_drew ?_ | refine blk_alloc ?_ _)); refine blk_put (cs := #[.slice none 0 0]) ?_ 0 _ rfl; (with_reducible repeat (first | refine blk_drewN ?_ _ | refine blk_drew ?_ | refine blk_alloc ?_ _)); exact BK509.out) hb); have n7_ := Aside0.mk (below_step (by repeat (first | (with_reducible first | exact HB.out | apply below_alloc | apply pw_below_drewN | apply below_drew1 | refine below_set ?_ GE482.out | refine below_set ?_ GE490.out | refine below_set ?_ GE509.out) | exact HB.out)) hb); clear HO_483000; clear HO_491000; clear HO504; clear HO507; clear BK482; clear BK490; clear BK509; clear HB; have HO_483000 := n0_; have HO_491000 := n1_; have HO504 := n2_; have HO507 := n3_; have BK482 := n4_; have BK490 := n5_; have BK509 := n6_; have HB := n7_; clear n0_ n1_ n2_ n3_ n4_ n5_ n6_ n7_; (try clear hb); (try clear hb2); (try clear hk); (try clear hi)))
             go_meet
             case rel => exact ⟨_, (true), (by first | rfl | (simp; done) | (simp [*]; done)), H', ⟨by have := HJ7.out; have := HJ39.out; first | omega | exact Nat.le_refl _⟩, ⟨zR (Kd.R_mono HO_483000.out (fun _ hk => by first | exact ⟨hk.1.1, hk.2⟩ | (revert hk; simp +contextual)))⟩, ⟨zR (Kd.R_mono HO_491000.out (fun _ hk => by first | exact ⟨hk.1.1, hk.2⟩ | (revert hk; simp +contextual)))⟩, ⟨zR (Kd.R_mono HO507.out (fun _ hk => by first | exact ⟨hk.1.1.2, hk.1.2⟩ | (revert hk; simp +contextual)))⟩, ⟨zk BK482.out⟩, ⟨zk BK490.out⟩, ⟨zk BK509.out⟩, ⟨by repeat (first | (with_reducible first | exact HB.out | apply below_alloc | apply pw_below_drewN | apply below_drew1 | refine below_set ?_ GE482.out | refine below_set ?_ GE490.out | refine below_set ?_ GE509.out) | exact HB.out)⟩⟩
           case rest =>
            clear HC66
            try clear c2
            try clear p2
            try clear c3
            try clear c3b0
            try clear c3b1
            try clear c4
            try clear c5
            try clear c6
            try clear c7
            try clear c8
            try clear c9
            try clear c20
            try clear c23
            try clear c24
            try clear c27
            try clear c28
            try clear c29
            try clear c30
            try clear c32
            try clear c38
            try clear c42
            try clear c42b0
            try clear c44
            try clear c45
            try clear c49
            try clear c53
            try clear c56
            try clear c57
            try clear c58
            try clear c59
            try clear c60
            try clear c62
            try clear c62b0
            try clear c63
            try clear c63b0
            try clear c63b1
            try clear c72
            try clear c73
            try clear c76
            try clear c77
            try clear c78
            try clear c80
            try clear c83
            try clear c84
            try clear c86
            try clear hcz14_0
            try clear hcz21_0
            try clear hcz25_0
            try clear hcz26_0
            try clear hcz29_0
            try clear hcz30_0
            try clear hcz46_0
            try clear hcz47_0
            try clear hcz50_0
            try clear hcz51_0
            try clear hcz58_0
            try clear hcz60_0
            try clear hcz74_0
            try clear hcz79_0
            try clear hcz81_0
            try clear hcz85_0
            try clear hcz87_0
            try clear hfz14_0
            try clear hfz21_0
            try clear hfz25_0
            try clear hfz26_0
            try clear hfz29_0
            try clear hfz30_0
            try clear hfz46_0
            try clear hfz47_0
            try clear hfz50_0
            try clear hfz51_0
            try clear hfz58_0
            try clear hfz60_0
            try clear hfz74_0
            try clear hfz79_0
            try clear hfz81_0
            try clear hfz85_0
            try clear hfz87_0
            try clear p2
            obtain ⟨kq, x89_65, rfl, HA, HJ65, HO_483000, HO_491000, HO_510000, BK482, BK490, BK509, HB⟩ := hcut
            have hl491000_65 := (Kd.R_reads' HO_491000.out).1
            rw [hl491000_65] at HO_491000
            (try simp only [hl491000_65])
            (try simp only [hl491000_65] at BK482)
            (try simp only [hl491000_65] at BK490)
            (try simp only [hl491000_65] at BK509)
            (try simp only [hl491000_65] at HO_483000)
            (try simp only [hl491000_65] at HO_510000)
            cases kq with
            | zero => exact absurd HA.out (by simp [laws_FnExactFromElements.j2])
            | succ kj65 =>
             have H := HA.out
             clear HA
             simp only [laws_FnExactFromElements.j2] at H
             by_cases c89 : x89_65 = true
             ·subst c89
              rw [zT] at H
              obtain rfl := Option.some.inj H
              go_wp2
              go_ret
              exact ⟨by first | rfl | (simp [errW_none, errW_some] <;> rfl) | (simp [*, errW_none, errW_some] <;> rfl), by repeat (first | (with_reducible first | exact HB.out | apply below_alloc | apply pw_below_drewN | apply below_drew1 | refine below_set ?_ GE482.out | refine below_set ?_ GE490.out | refine below_set ?_ GE509.out) | exact HB.out)⟩
             ·replace c89 := Bool.eq_false_iff.mpr c89
              subst c89
              rw [zF] at H
              obtain ⟨t511, A90, H⟩ := zb H
              have HU91 := Aside0.mk H
              clear H
              have hnb92 := NB490_482.out
              have hnc92 := NB482_490.out
              have hnb93 := NB490_509.out
              have hnc93 := NB509_490.out
              have hcz94_0 : wc.cell? ⟨gb490, 0, none⟩ = some (.slice Ao19 t500.length co19) := (blk_cell BK490.out 0).trans rfl
              have hfz94_0 := blk_frozen BK490.out 0
              go_upto_if 94 with (first | ((with_reducible refine gate_callee (f := 60) rfl ?_); refine goesL_ (some 92) rfl rfl Try.func60 (by kernel_rfl) rfl #[.agg #[.slice Ao19 t500.length co19], .int .i64 1] rfl (by (try simp only [List.map_toArray, List.map_cons, List.map_nil]); first | done | rfl | (simp only [List.length_drop, List.length_take]; rfl)) ?_; (with_reducible refine (laws_heldSemigroup.calls kj65 _ _ t500 1 t511 _ ?side1 ?side2 A90.out).mono ?_); (case side1 => repeat (first | exact (Kd.R_reads' HO_491000.out).2.2 | (with_reducible refine Kd.C_alloc ?_ _) | (with_reducible refine Kd.C_drewN ?_ _) | (with_reducible refine Kd.C_drew ?_))); (case side2 => exact (Kd.R_reads' HO_491000.out).2.1); rintro e w95 ⟨rfl, hb⟩; refine ⟨_, rfl, ?_⟩; have n0_ := Aside0.mk (Kd.R_below (zR HO_483000.out) hb); have n1_ := Aside0.mk (Kd.R_below (zR HO_491000.out) hb); have n2_ := Aside0.mk (Kd.R_below (zR HO_510000.out) hb); have n3_ := Aside0.mk (blk_below (g := gb482) (o := .cells #[.slice Ao13 t478.length co13] 40 (0, 0)) (zk BK482.out) hb); have n4_ := Aside0.mk (blk_below (g := gb490) (o := .cells #[.slice Ao19 t500.length co19] 40 (0, 0)) (zk BK490.out) hb); have n5_ := Aside0.mk (blk_below (g := gb509) (o := .cells #[.slice Ao71 t505.length co71] 40 (0, 0)) (zk BK509.out) hb); have n6_ := Aside0.mk (below_step (by repeat (first | (with_reducible first | exact HB.out | apply below_alloc | apply pw_below_drewN | apply below_drew1 | refine below_set ?_ GE482.out | refine below_set ?_ GE490.out | refine below_set ?_ GE509.out) | exact HB.out)) hb); clear HO_483000; clear HO_491000; clear HO_510000; clear BK482; clear BK490; clear BK509; clear HB; have HO_483000 := n0_; have HO_491000 := n1_; have HO_510000 := n2_; have BK482 := n3_; have BK490 := n4_; have BK509 := n5_; have HB := n6_; clear n0_ n1_ n2_ n3_ n4_ n5_ n6_; (try clear hb); (try clear hb2); (try clear hk); (try clear hi)))
              (try simp only [Act.put, List.setIfInBounds_toArray, List.set_cons_zero, List.set_cons_succ])
              have H := HU91.out
              clear HU91
              by_cases c96 : t511 < 0
              ·rw [if_pos c96] at H
               have c96b0 : decide (t511 < 0) = true := decide_eq_true c96
               clear c96
               (first | rw [c96b0] | rw [c96b1] | (simp only [i64_w, i32_w]; rw [c96b0]) | skip)
               obtain rfl := Option.some.inj H
               go_wp2
               go_ret
               exact ⟨by first | rfl | (simp [errW_none, errW_some] <;> rfl) | (simp [*, errW_none, errW_some] <;> rfl), by repeat (first | (with_reducible first | exact HB.out | apply below_alloc | apply pw_below_drewN | apply below_drew1 | refine below_set ?_ GE482.out | refine below_set ?_ GE490.out | refine below_set ?_ GE509.out) | exact HB.out)⟩
              ·rw [if_neg c96] at H
               have c96b0 : decide (t511 < 0) = false := decide_eq_false c96
               clear c96
               (first | rw [c96b0] | rw [c96b1] | (simp only [i64_w, i32_w]; rw [c96b0]) | skip)
               by_cases c97 : t511 = t499
               ·rw [if_pos c97] at H
                have c97b0 : (t511 == t499) = true := beq_iff_eq.mpr c97
                have c97b1 : (t511 != t499) = false := bne_eq_false_iff_eq.mpr c97
                clear c97
                obtain rfl := Option.some.inj H
                go_wp2
                go_ret
                exact ⟨by first | rfl | (simp [errW_none, errW_some] <;> rfl) | (simp [*, errW_none, errW_some] <;> rfl), by repeat (first | (with_reducible first | exact HB.out | apply below_alloc | apply pw_below_drewN | apply below_drew1 | refine below_set ?_ GE482.out | refine below_set ?_ GE490.out | refine below_set ?_ GE509.out) | exact HB.out)⟩
               ·rw [if_neg c97] at H
                have c97b0 : (t511 == t499) = false := beq_eq_false_iff_ne.mpr c97
                have c97b1 : (t511 != t499) = true := bne_iff_ne.mpr c97
                obtain rfl := Option.some.inj H
                go_wp2
                go_ret
                exact ⟨by first | rfl | (simp [errW_none, errW_some] <;> rfl) | (simp [*, errW_none, errW_some] <;> rfl), by repeat (first | (with_reducible first | exact HB.out | apply below_alloc | apply pw_below_drewN | apply below_drew1 | refine below_set ?_ GE482.out | refine below_set ?_ GE490.out | refine below_set ?_ GE509.out) | exact HB.out)⟩
          ·rw [if_neg c63] at H
           have c63b0 : (t501 == t499) = false := beq_eq_false_iff_ne.mpr c63
           have c63b1 : (t501 != t499) = true := bne_iff_ne.mpr c63
           obtain rfl := Option.some.inj H
           go_wp2
           go_ret
           exact ⟨by first | rfl | (simp [errW_none, errW_some] <;> rfl) | (simp [*, errW_none, errW_some] <;> rfl), by repeat (first | (with_reducible first | exact HB.out | apply below_alloc | apply pw_below_drewN | apply below_drew1 | refine below_set ?_ GE482.out | refine below_set ?_ GE490.out) | exact HB.out)⟩
     ·replace c38 := Bool.eq_false_iff.mpr c38
      subst c38
      rw [zF] at H
      obtain rfl := Option.some.inj H
      go_wp2
      go_ret
      exact ⟨by first | rfl | (simp [errW_none, errW_some] <;> rfl) | (simp [*, errW_none, errW_some] <;> rfl), by repeat (first | (with_reducible first | exact HB.out | apply below_alloc | apply pw_below_drewN | apply below_drew1 | refine below_set ?_ GE482.out | refine below_set ?_ GE490.out) | exact HB.out)⟩

/-- THE ONE PURE STATEMENT of laws_FnExactFromElements: yours. -/
def laws_FnExactFromElements.Pure : Prop := ∀ (l0 : List Int) (a1 : Int), l0.length ≤ maxLen → l0.length * 8 ≤ 140737488351232 → (∀ x ∈ l0, (Lit.int .i64 x).wf = true) → (Lit.int .i64 a1).wf = true → ∃ k, laws_FnExactFromElements.f k l0 a1 = some true
theorem laws_FnExactFromElements.walk (P : laws_FnExactFromElements.Pure) (a0 : Option Addr) (len0 cap0 : Nat) (z0 : List Int) (a1 : Int) (w : World) (w0 : (a0 = none ∧ len0 = 0 ∧ cap0 = 0 ∧ z0 = []) ∨ ∃ x, a0 = some x ∧ len0 ≤ cap0 ∧ cap0 ≤ maxLen ∧ z0.length = cap0 ∧ (∀ i, i < z0.length → w.cell? (x.add i) = some (.int .i64 (z0.getD i 0))) ∧ ∀ n ∈ z0, (Lit.int .i64 n).wf = true) (y0 : len0 * 8 ≤ 140737488351232) (w1 : (Lit.int .i64 a1).wf = true) :
  Calls Try.prog 9 #[.slice a0 len0 cap0, .int .i64 a1] w fun e w' => e = .returned (.bool true) ∧ Below w.heap.size w w' := by
 obtain ⟨l0, rfl, hr0, hm0, hw0, hc0⟩ := ReadsInt.ofRowC w0
 obtain ⟨k, h⟩ := P l0 a1 hm0 y0 hw0 w1
 refine (laws_FnExactFromElements.calls k _ _ l0 a1 true w (Kd.C_of_reads (d := (0 : Int)) (h1 := fun _ => rfl) hr0) hc0 h).mono ?_
 rintro e w' ⟨rfl, hd⟩
 exact ⟨rfl, hd⟩

end Go.Proofs.Ytbagfnppeidonaa.PFnExactFromElements
