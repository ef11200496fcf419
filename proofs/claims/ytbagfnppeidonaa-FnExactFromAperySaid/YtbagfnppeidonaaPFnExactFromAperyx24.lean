-- Written by a program of this session (a turned copy of the kit's print; see NOTES.md).
import Derived.Test.YtbagfnppeidonaaPFnExactFromAperyx0
import Derived.Test.YtbagfnppeidonaaPFnExactFromAperyx23
namespace Go.Proofs.Ytbagfnppeidonaa.PFnExactFromApery
open Go.RowKit Go.Proofs.YtbagfnppeidonaaW.PrintWords Go.Proofs.YtbagfnppeidonaaW.PrintLast Go.Proofs.YtbagfnppeidonaaW.PrintMore
attribute [local go_sem] max2_int min2_int max_two min_two max_three min_three max_four min_four   -- for this text's walks alone
set_option linter.unusedVariables false
set_option linter.unusedSimpArgs false

/-! ### laws_FnExactFromApery: function 13 -/
mutual
def laws_FnExactFromApery.j0 : Nat → List Int → Bool → List Int → Bool → Bool → List Int → List Int → Option (Bool)
 | 0, _, _, _, _, _, _, _ => none
 | k + 1, x0, x4, x5, x7, x37, x593000, x601000 => if x37 = true then (some false) else ((laws_toIntS.f k x0).bind fun t602 => ((laws_eqIntS.f k x5 t602).bind fun t605 => (if t605 = true then ((laws_markIntS.f k x5 1).bind fun bt606 => (if bt606.1 < 0 then (laws_FnExactFromApery.j1 k x0 x4 true x593000 x601000) else ((laws_eqSemigroup.f k x601000 x593000).bind fun t608 => (if t608 = true then (laws_FnExactFromApery.j1 k x0 x4 (x7 != x4) x593000 x601000) else (laws_FnExactFromApery.j1 k x0 x4 true x593000 x601000))))) else (some false))))
def laws_FnExactFromApery.j1 : Nat → List Int → Bool → Bool → List Int → List Int → Option (Bool)
 | 0, _, _, _, _, _ => none
 | k + 1, x0, x4, x58, x593000, x601000 => if x58 = true then (some false) else ((laws_markSemigroup.f k x601000 1).bind fun bt609 => ((laws_heldSemigroup.f k bt609.2 1).bind fun t611 => (if t611 < 0 then (some false) else (if t611 = bt609.1 then ((laws_toIntS.f k x0).bind fun t612 => ((impl_FromApery.f k t612).bind fun bt615 => ((laws_eqSemigroup.f k bt615.1 x593000).bind fun t620 => (if t620 = true then (laws_FnExactFromApery.j2 k bt609.1 (bt615.2 != x4) bt609.2) else (laws_FnExactFromApery.j2 k bt609.1 true bt609.2))))) else (some false)))))
def laws_FnExactFromApery.j2 : Nat → Int → Bool → List Int → Option (Bool)
 | 0, _, _, _ => none
 | k + 1, x9, x84, x601000 => if x84 = true then (some false) else ((laws_heldSemigroup.f k x601000 1).bind fun t621 => (if t621 < 0 then (some false) else (if t621 = x9 then (some true) else (some false))))
end
def laws_FnExactFromApery.f (k : Nat) (l0 : List Int) : Option (Bool) := if (l0.length : Int) > 1048576 then (some true) else ((laws_toIntS.f k l0).bind fun t585 => ((spec_FromApery.f k t585).bind fun bt588 => ((laws_toIntS.f k l0).bind fun t593 => ((impl_FromApery.f k t593).bind fun bt596 => ((laws_eqSemigroup.f k bt596.1 bt588.1).bind fun t601 => (if t601 = true then (laws_FnExactFromApery.j0 k l0 bt588.2 t593 bt596.2 (bt596.2 != bt588.2) bt588.1 bt596.1) else (laws_FnExactFromApery.j0 k l0 bt588.2 t593 bt596.2 true bt588.1 bt596.1)))))))
theorem laws_FnExactFromApery.mono_l : ∀ k, (∀ y0 y1 y2 y3 y4 y5 y6, LeO (laws_FnExactFromApery.j0 k y0 y1 y2 y3 y4 y5 y6) (laws_FnExactFromApery.j0 (k + 1) y0 y1 y2 y3 y4 y5 y6)) ∧ (∀ y0 y1 y2 y3 y4, LeO (laws_FnExactFromApery.j1 k y0 y1 y2 y3 y4) (laws_FnExactFromApery.j1 (k + 1) y0 y1 y2 y3 y4)) ∧ (∀ y0 y1 y2, LeO (laws_FnExactFromApery.j2 k y0 y1 y2) (laws_FnExactFromApery.j2 (k + 1) y0 y1 y2))
 | 0 => ⟨fun _ _ _ _ _ _ _ r h => by simp [laws_FnExactFromApery.j0] at h, fun _ _ _ _ _ r h => by simp [laws_FnExactFromApery.j1] at h, fun _ _ _ r h => by simp [laws_FnExactFromApery.j2] at h⟩
 | k + 1 => by
  obtain ⟨ih0, ih1, ih2⟩ := laws_FnExactFromApery.mono_l k
  refine ⟨?_, ?_, ?_⟩
  ·intro y0 y1 y2 y3 y4 y5 y6
   unfold laws_FnExactFromApery.j0
   repeat' first
   | (with_reducible first | exact ih0 _ _ _ _ _ _ _ | exact ih1 _ _ _ _ _ | exact ih2 _ _ _ | exact impl_FromApery.mono _ _ | exact laws_eqIntS.mono _ _ _ | exact laws_eqSemigroup.mono _ _ _ | exact laws_heldSemigroup.mono _ _ _ | exact laws_markIntS.mono _ _ _ | exact laws_markSemigroup.mono _ _ _ | exact laws_toIntS.mono _ _ | exact spec_FromApery.mono _ _ | exact LeO.refl _ | exact LeO.none _ | refine LeO.ite ?_ ?_ | refine LeO.bind ?_ (fun _ => ?_))
   | exact LeO.none _
   | refine LeO.ite ?_ ?_
   | refine LeO.bind ?_ (fun _ => ?_)
  ·intro y0 y1 y2 y3 y4
   unfold laws_FnExactFromApery.j1
   repeat' first
   | (with_reducible first | exact ih0 _ _ _ _ _ _ _ | exact ih1 _ _ _ _ _ | exact ih2 _ _ _ | exact impl_FromApery.mono _ _ | exact laws_eqIntS.mono _ _ _ | exact laws_eqSemigroup.mono _ _ _ | exact laws_heldSemigroup.mono _ _ _ | exact laws_markIntS.mono _ _ _ | exact laws_markSemigroup.mono _ _ _ | exact laws_toIntS.mono _ _ | exact spec_FromApery.mono _ _ | exact LeO.refl _ | exact LeO.none _ | refine LeO.ite ?_ ?_ | refine LeO.bind ?_ (fun _ => ?_))
   | exact LeO.none _
   | refine LeO.ite ?_ ?_
   | refine LeO.bind ?_ (fun _ => ?_)
  ·intro y0 y1 y2
   unfold laws_FnExactFromApery.j2
   repeat' first
   | (with_reducible first | exact ih0 _ _ _ _ _ _ _ | exact ih1 _ _ _ _ _ | exact ih2 _ _ _ | exact impl_FromApery.mono _ _ | exact laws_eqIntS.mono _ _ _ | exact laws_eqSemigroup.mono _ _ _ | exact laws_heldSemigroup.mono _ _ _ | exact laws_markIntS.mono _ _ _ | exact laws_markSemigroup.mono _ _ _ | exact laws_toIntS.mono _ _ | exact spec_FromApery.mono _ _ | exact LeO.refl _ | exact LeO.none _ | refine LeO.ite ?_ ?_ | refine LeO.bind ?_ (fun _ => ?_))
   | exact LeO.none _
   | refine LeO.ite ?_ ?_
   | refine LeO.bind ?_ (fun _ => ?_)
theorem laws_FnExactFromApery.mono : ∀ a0 k, LeO (laws_FnExactFromApery.f k a0) (laws_FnExactFromApery.f (k + 1) a0) := by
 intro a0 k
 obtain ⟨ih0, ih1, ih2⟩ := laws_FnExactFromApery.mono_l k
 unfold laws_FnExactFromApery.f
 repeat' first
   | (with_reducible first | exact ih0 _ _ _ _ _ _ _ | exact ih1 _ _ _ _ _ | exact ih2 _ _ _ | exact impl_FromApery.mono _ _ | exact laws_eqIntS.mono _ _ _ | exact laws_eqSemigroup.mono _ _ _ | exact laws_heldSemigroup.mono _ _ _ | exact laws_markIntS.mono _ _ _ | exact laws_markSemigroup.mono _ _ _ | exact laws_toIntS.mono _ _ | exact spec_FromApery.mono _ _ | exact LeO.refl _ | exact LeO.none _ | refine LeO.ite ?_ ?_ | refine LeO.bind ?_ (fun _ => ?_))
   | exact LeO.none _
   | refine LeO.ite ?_ ?_
   | refine LeO.bind ?_ (fun _ => ?_)
set_option maxHeartbeats 8000000 in
set_option maxRecDepth 100000 in
theorem laws_FnExactFromApery.calls (k : Nat) (A0 : Option Addr) (c0 : Nat) (l0 : List Int) (r : Bool) (w : World) (hr0 : Kd.C (Kd.int .i64) w A0 l0.length l0) (hc0 : l0.length ≤ c0) (h : laws_FnExactFromApery.f k l0 = some r) :
  Calls Try.prog 13 #[.slice A0 l0.length c0] w fun e w' => e = .returned (.bool r) ∧ Below w.heap.size w w' := by
 have hu40 := Try.underlying40
 have HR0 := Aside0.mk hr0
 have HC0 := Aside0.mk hc0
 clear hr0 hc0
 have HB := Aside0.mk (Below.refl w.heap.size w)
 have H : (if (l0.length : Int) > 1048576 then (some true) else ((laws_toIntS.f k l0).bind fun t585 => ((spec_FromApery.f k t585).bind fun bt588 => ((laws_toIntS.f k l0).bind fun t593 => ((impl_FromApery.f k t593).bind fun bt596 => ((laws_eqSemigroup.f k bt596.1 bt588.1).bind fun t601 => (if t601 = true then (laws_FnExactFromApery.j0 k l0 bt588.2 t593 bt596.2 (bt596.2 != bt588.2) bt588.1 bt596.1) else (laws_FnExactFromApery.j0 k l0 bt588.2 t593 bt596.2 true bt588.1 bt596.1)))))))) = some r := h
 clear h
 by_cases c2 : (l0.length : Int) > 1048576
 ·rw [if_pos c2] at H
  have c2b0 : decide (1048576 < (l0.length : Int)) = true := decide_eq_true c2
  have c2b1 : decide (1048576 < l0.length) = true := decide_eq_true (by omega)
  clear c2
  obtain rfl := Option.some.inj H
  go_enter Try.func13, Try.ntmps13
  go_wp2
  go_ret
  exact ⟨by first | rfl | (simp [errW_none, errW_some] <;> rfl) | (simp [*, errW_none, errW_some] <;> rfl), zB HB.out⟩
 ·rw [if_neg c2] at H
  have c2b0 : decide (1048576 < (l0.length : Int)) = false := decide_eq_false c2
  have c2b1 : decide (1048576 < l0.length) = false := decide_eq_false (by omega)
  clear c2
  obtain ⟨t585, A3, H⟩ := zb H
  obtain ⟨⟨t588, t591⟩, A4, H⟩ := zb H
  replace H : ((laws_toIntS.f k l0).bind fun t593 => ((impl_FromApery.f k t593).bind fun bt596 => ((laws_eqSemigroup.f k bt596.1 t588).bind fun t601 => (if t601 = true then (laws_FnExactFromApery.j0 k l0 t591 t593 bt596.2 (bt596.2 != t591) t588 bt596.1) else (laws_FnExactFromApery.j0 k l0 t591 t593 bt596.2 true t588 bt596.1))))) = some r := H
  obtain ⟨t593, A5, H⟩ := zb H
  obtain ⟨⟨t596, t599⟩, A6, H⟩ := zb H
  replace H : ((laws_eqSemigroup.f k t596 t588).bind fun t601 => (if t601 = true then (laws_FnExactFromApery.j0 k l0 t591 t593 t599 (t599 != t591) t588 t596) else (laws_FnExactFromApery.j0 k l0 t591 t593 t599 true t588 t596))) = some r := H
  have HC7 := Aside0.mk H
  clear H
  go_enter Try.func13, Try.ntmps13
  go_upto_region 6 with (first | ((with_reducible refine gate_callee (f := 27) rfl ?_); refine goesL_ (some 18) rfl rfl Try.func27 (by kernel_rfl) rfl #[.slice A0 l0.length c0] rfl (by (try simp only [za, zc, zn]); first | done | rfl | (simp only [List.length_drop, List.length_take]; rfl)) ?_; (with_reducible refine (laws_toIntS.calls k _ _ l0 t585 _ ?side1 ?side2 A3.out).mono ?_); (case side1 => repeat (first | exact HR0.out | (with_reducible refine Kd.C_alloc ?_ _) | (with_reducible refine Kd.C_drewN ?_ _) | (with_reducible refine Kd.C_drew ?_))); (case side2 => exact HC0.out); rintro e w8 ⟨v586, rfl, ho0, hb⟩; refine ⟨_, rfl, ?_⟩; have n0_ := Aside0.mk (Kd.R_lower ho0 (zS HB.out)); have n1_ := Aside0.mk (below_step (zB HB.out) hb); clear HB; have HO587 := n0_; have HB := n1_; clear n0_ n1_; (try clear hb); (try clear hb2); (try clear hk); (try clear hi); (try clear ho0); obtain ⟨Ao9, co9, eo9⟩ := Kd.R_slice HO587.out; subst eo9) | ((with_reducible refine gate_callee (f := 85) rfl ?_); refine goesL_ (some 19) rfl rfl Try.func85 (by kernel_rfl) rfl #[.slice Ao9 t585.length co9] rfl (by (try simp only [za, zc, zn]); first | done | rfl | (simp only [List.length_drop, List.length_take]; rfl)) ?_; (with_reducible refine (spec_FromApery.calls k _ _ t585 t588 t591 _ ?side1 ?side2 A4.out).mono ?_); (case side1 => repeat (first | exact (Kd.R_reads' HO587.out).2.2 | (with_reducible refine Kd.C_alloc ?_ _) | (with_reducible refine Kd.C_drewN ?_ _) | (with_reducible refine Kd.C_drew ?_))); (case side2 => exact (Kd.R_reads' HO587.out).2.1); rintro e w10 ⟨v589, rfl, ho0, hb⟩; refine ⟨_, rfl, ?_⟩; have n0_ := Aside0.mk (Kd.R_elder' (zR HO587.out) (Kd.R_base ho0) hb); have n1_ := Aside0.mk (Kd.R_lower (Kd.R_new' ho0 (Kd.R_lt (zR HO587.out))) (zS HB.out)); have n2_ := Aside0.mk (below_step (zB HB.out) hb); clear HO587; clear HB; have HO587 := n0_; have HO590 := n1_; have HB := n2_; clear n0_ n1_ n2_; (try clear hb); (try clear hb2); (try clear hk); (try clear hi); (try clear ho0)) | ((with_reducible refine gate_dst (N := 3) rfl ?_); refine box_event ?hg (N := 3) ?hd (cs := #[.slice none 0 0]) (t := 40) ?hr ?_; (case hd => rfl); (case hg => rfl); (case hr => first | (go_simp; done) | (go_simp; rfl)); intro gb592 hg w11 hbox hb; have n0_ := Aside0.mk (Kd.R_below (zR HO587.out) hb); have n1_ := Aside0.mk (Kd.R_below (zR HO590.out) hb); have n2_ := Aside0.mk (below_step (zB HB.out) hb); have n3_ := Aside0.mk (hbox); have n4_ := Aside0.mk ((by rw [hg]; exact (zS HB.out) : w.heap.size ≤ gb592)); have n5_ := Aside0.mk ((by rw [hg]; exact (zS HB.out) : w.heap.size ≤ gb592)); clear HO587; clear HO590; clear HB; have HO587 := n0_; have HO590 := n1_; have HB := n2_; have BK592 := n3_; have GW592 := n4_; have GE592 := n5_; clear n0_ n1_ n2_ n3_ n4_ n5_; clear hb hbox hg; obtain ⟨Ao12, co12, eo12⟩ := Kd.R_slice HO590.out; subst eo12; have hcz13_0 : w11.cell? ⟨gb592, 0, none⟩ = some (.slice none 0 0) := (blk_cell BK592.out 0).trans rfl; have hfz13_0 := blk_frozen BK592.out 0) | ((with_reducible refine gate_callee (f := 27) rfl ?_); refine goesL_ (some 23) rfl rfl Try.func27 (by kernel_rfl) rfl #[.slice A0 l0.length c0] rfl (by (try simp only [za, zc, zn]); first | done | rfl | (simp only [List.length_drop, List.length_take]; rfl)) ?_; (with_reducible refine (laws_toIntS.calls k _ _ l0 t593 _ ?side1 ?side2 A5.out).mono ?_); (case side1 => exact Kd.C_below HR0.out (by repeat (first | (with_reducible first | exact HB.out | apply below_alloc | apply pw_below_drewN | apply below_drew1 | refine below_set ?_ GE592.out) | exact HB.out))); (case side2 => exact HC0.out); rintro e w14 ⟨v594, rfl, ho0, hb⟩; refine ⟨_, rfl, ?_⟩; have n0_ := Aside0.mk (Kd.R_elder' (zR ((Kd.R_mono (Kd.R_far (p := ⟨gb592, 0, none⟩) (Kd.R_types HO587.out BK592.out (by decide)) (fun _ hk => hk.2) (.slice Ao12 t588.length co12)) (fun _ h_ => h_.1)))) (Kd.R_base ho0) hb); have n1_ := Aside0.mk (Kd.R_elder' (zR ((Kd.R_mono (Kd.R_far (p := ⟨gb592, 0, none⟩) (Kd.R_types HO590.out BK592.out (by decide)) (fun _ hk => hk.2) (.slice Ao12 t588.length co12)) (fun _ h_ => h_.1)))) (Kd.R_base ho0) hb); have n2_ := Aside0.mk (Kd.R_lower (Kd.R_new' (Kd.R_new' ho0 (Kd.R_lt (zR ((Kd.R_mono (Kd.R_far (p := ⟨gb592, 0, none⟩) (Kd.R_types HO587.out BK592.out (by decide)) (fun _ hk => hk.2) (.slice Ao12 t588.length co12)) (fun _ h_ => h_.1)))))) (Kd.R_lt (zR ((Kd.R_mono (Kd.R_far (p := ⟨gb592, 0, none⟩) (Kd.R_types HO590.out BK592.out (by decide)) (fun _ hk => hk.2) (.slice Ao12 t588.length co12)) (fun _ h_ => h_.1)))))) (below_size (by repeat (first | (with_reducible first | exact HB.out | apply below_alloc | apply pw_below_drewN | apply below_drew1 | refine below_set ?_ GE592.out) | exact HB.out)))); have n3_ := Aside0.mk (blk_below (g := gb592) (o := .cells #[.slice Ao12 t588.length co12] 40 (0, 0)) (by (with_reducible repeat (first | refine blk_drewN ?_ _ | refine blk_drew ?_ | refine blk_alloc ?_ _)); refine blk_put (cs := #[.slice none 0 0]) ?_ 0 _ rfl; (with_reducible repeat (first | refine blk_drewN ?_ _ | refine blk_drew ?_ | refine blk_alloc ?_ _)); exact BK592.out) hb); have n4_ := Aside0.mk (below_step (by repeat (first | (with_reducible first | exact HB.out | apply below_alloc | apply pw_below_drewN | apply below_drew1 | refine below_set ?_ GE592.out) | exact HB.out)) hb); clear HO587; clear HO590; clear BK592; clear HB; have HO587 := n0_; have HO590 := n1_; have HO595 := n2_; have BK592 := n3_; have HB := n4_; clear n0_ n1_ n2_ n3_ n4_; (try clear hb); (try clear hb2); (try clear hk); (try clear hi); (try clear ho0); obtain ⟨Ao15, co15, eo15⟩ := Kd.R_slice HO595.out; subst eo15) | ((with_reducible refine gate_callee (f := 86) rfl ?_); refine goesL_ (some 26) rfl rfl Try.func86 (by kernel_rfl) rfl #[.slice Ao15 t593.length co15] rfl (by (try simp only [za, zc, zn]); first | done | rfl | (simp only [List.length_drop, List.length_take]; rfl)) ?_; (with_reducible refine (impl_FromApery.calls k _ _ t593 t596 t599 _ ?side1 ?side2 A6.out).mono ?_); (case side1 => repeat (first | exact (Kd.R_reads' HO595.out).2.2 | (with_reducible refine Kd.C_alloc ?_ _) | (with_reducible refine Kd.C_drewN ?_ _) | (with_reducible refine Kd.C_drew ?_))); (case side2 => exact (Kd.R_reads' HO595.out).2.1); rintro e w16 ⟨v597, rfl, ho0, hb⟩; refine ⟨_, rfl, ?_⟩; have n0_ := Aside0.mk (Kd.R_elder' (zR HO587.out) (Kd.R_base ho0) hb); have n1_ := Aside0.mk (Kd.R_elder' (zR HO590.out) (Kd.R_base ho0) hb); have n2_ := Aside0.mk (Kd.R_elder' (zR HO595.out) (Kd.R_base ho0) hb); have n3_ := Aside0.mk (Kd.R_lower (Kd.R_new' (Kd.R_new' (Kd.R_new' ho0 (Kd.R_lt (zR HO587.out))) (Kd.R_lt (zR HO590.out))) (Kd.R_lt (zR HO595.out))) (below_size (by repeat (first | (with_reducible first | exact HB.out | apply below_alloc | apply pw_below_drewN | apply below_drew1 | refine below_set ?_ GE592.out) | exact HB.out)))); have n4_ := Aside0.mk (blk_below (g := gb592) (o := .cells #[.slice Ao12 t588.length co12] 40 (0, 0)) (zk BK592.out) hb); have n5_ := Aside0.mk (below_step (by repeat (first | (with_reducible first | exact HB.out | apply below_alloc | apply pw_below_drewN | apply below_drew1 | refine below_set ?_ GE592.out) | exact HB.out)) hb); clear HO587; clear HO590; clear HO595; clear BK592; clear HB; have HO587 := n0_; have HO590 := n1_; have HO595 := n2_; have HO598 := n3_; have BK592 := n4_; have HB := n5_; clear n0_ n1_ n2_ n3_ n4_ n5_; (try clear hb); (try clear hb2); (try clear hk); (try clear hi); (try clear ho0)) | ((with_reducible refine gate_dst (N := 6) rfl ?_); refine box_event ?hg (N := 6) ?hd (cs := #[.slice none 0 0]) (t := 40) ?hr ?_; (case hd => rfl); (case hg => rfl); (case hr => first | (go_simp; done) | (go_simp; rfl)); intro gb600 hg w17 hbox hb; have n0_ := Aside0.mk (Kd.R_below (zR HO587.out) hb); have n1_ := Aside0.mk (Kd.R_below (zR HO590.out) hb); have n2_ := Aside0.mk (Kd.R_below (zR HO595.out) hb); have n3_ := Aside0.mk (Kd.R_below (zR HO598.out) hb); have n4_ := Aside0.mk (blk_below (g := gb592) (o := .cells #[.slice Ao12 t588.length co12] 40 (0, 0)) (zk BK592.out) hb); have n5_ := Aside0.mk (below_step (by repeat (first | (with_reducible first | exact HB.out | apply below_alloc | apply pw_below_drewN | apply below_drew1 | refine below_set ?_ GE592.out) | exact HB.out)) hb); have n6_ := Aside0.mk (hbox); have n7_ := Aside0.mk ((by rw [hg]; exact (below_size (by repeat (first | (with_reducible first | exact HB.out | apply below_alloc | apply pw_below_drewN | apply below_drew1 | refine below_set ?_ GE592.out) | exact HB.out))) : w.heap.size ≤ gb600)); have n8_ := Aside0.mk ((by rw [hg]; exact (below_size (by repeat (first | (with_reducible first | exact HB.out | apply below_alloc | apply pw_below_drewN | apply below_drew1 | refine below_set ?_ GE592.out) | exact HB.out))) : w.heap.size ≤ gb600)); have n9_ := Aside0.mk ((by rw [hg]; exact Nat.ne_of_lt (blk_lt (g := gb592) (o := .cells #[.slice Ao12 t588.length co12] 40 (0, 0)) (zk BK592.out)) : gb592 ≠ gb600)); have n10_ := Aside0.mk ((by rw [hg]; exact Nat.ne_of_gt (blk_lt (g := gb592) (o := .cells #[.slice Ao12 t588.length co12] 40 (0, 0)) (zk BK592.out)) : gb600 ≠ gb592)); clear HO587; clear HO590; clear HO595; clear HO598; clear BK592; clear HB; have HO587 := n0_; have HO590 := n1_; have HO595 := n2_; have HO598 := n3_; have BK592 := n4_; have HB := n5_; have BK600 := n6_; have GW600 := n7_; have GE600 := n8_; have NB592_600 := n9_; have NB600_592 := n10_; clear n0_ n1_ n2_ n3_ n4_ n5_ n6_ n7_ n8_ n9_ n10_; clear hb hbox hg; obtain ⟨Ao18, co18, eo18⟩ := Kd.R_slice HO598.out; subst eo18; have hnb19 := NB600_592.out; have hnc19 := NB592_600.out; have hcz20_0 : w17.cell? ⟨gb600, 0, none⟩ = some (.slice none 0 0) := (blk_cell BK600.out 0).trans rfl; have hfz20_0 := blk_frozen BK600.out 0))
  (try simp only [Act.put, List.setIfInBounds_toArray, List.set_cons_zero, List.set_cons_succ])
  go_cut [37] (fun v37 wc => ∃ (kq : Nat) (x37_6 : Bool), v37 = .bool x37_6 ∧ Aside0 (laws_FnExactFromApery.j0 kq l0 t591 t593 t599 x37_6 t588 t596 = some r) ∧ Aside0 (kq ≤ k) ∧ Aside0 (Kd.R (Kd.int .i64) 3 wc w.heap.size (fun k_ => some k_ ≠ ((.slice Ao12 t588.length co12) : Value).ownBlock ∧ some k_ ≠ ((.slice Ao18 t596.length co18) : Value).ownBlock) (.slice Ao15 t593.length co15) t593) ∧ Aside0 (Kd.R (Kd.int .i64) 3 wc w.heap.size (fun k_ => some k_ ≠ ((.slice Ao15 t593.length co15) : Value).ownBlock ∧ some k_ ≠ ((.slice Ao18 t596.length co18) : Value).ownBlock) (.slice Ao12 t588.length co12) t588) ∧ Aside0 (Kd.R (Kd.int .i64) 3 wc w.heap.size (fun k_ => some k_ ≠ ((.slice Ao15 t593.length co15) : Value).ownBlock ∧ some k_ ≠ ((.slice Ao12 t588.length co12) : Value).ownBlock) (.slice Ao18 t596.length co18) t596) ∧ Aside0 (wc.heap[gb592]? = some (.cells #[(.slice Ao12 t588.length co12)] 40 (0, 0))) ∧ Aside0 (wc.heap[gb600]? = some (.cells #[(.slice Ao18 t596.length co18)] 40 (0, 0))) ∧ Aside0 (Below w.heap.size w wc))
  case first =>
   have H := HC7.out
   clear HC7
   obtain ⟨t601, A21, H⟩ := zb H
   by_cases c22 : t601 = true
   ·subst c22
    rw [zT] at H
    have H' := Aside0.mk H
    clear H
    have hnb23 := NB600_592.out
    have hnc23 := NB592_600.out
    have hcz24_0 : w17.cell? ⟨gb600, 0, none⟩ = some (.slice none 0 0) := (blk_cell BK600.out 0).trans rfl
    have hfz24_0 := blk_frozen BK600.out 0
    have hcz25_0 : w17.cell? ⟨gb592, 0, none⟩ = some (.slice Ao12 t588.length co12) := (blk_cell BK592.out 0).trans rfl
    have hfz25_0 := blk_frozen BK592.out 0
    go_wp2_with (first | ((with_reducible refine gate_callee (f := 58) rfl ?_); refine goesL_ (some 31) rfl rfl Try.func58 (by kernel_rfl) rfl #[.agg #[.slice Ao18 t596.length co18], .agg #[.slice Ao12 t588.length co12]] rfl (by (try simp only [za, zc, zn]); first | done | rfl | (simp only [List.length_drop, List.length_take]; rfl)) ?_; (with_reducible refine (laws_eqSemigroup.calls k _ _ t596 _ _ t588 true _ ?side1 ?side2 ?side3 ?side4 A21.out).mono ?_); (case side1 => refine (Kd.R_reads' (e := 3) (base := w.heap.size) (ok := fun k_ => (((True ∧ some k_ ≠ (.slice Ao9 t585.length co9 : Value).ownBlock) ∧ some k_ ≠ (.slice Ao12 t588.length co12 : Value).ownBlock) ∧ some k_ ≠ (.slice Ao15 t593.length co15 : Value).ownBlock)) (n := t596.length) (c := co18) ?_).2.2; exact (zR ((Kd.R_mono (Kd.R_far (p := ⟨gb600, 0, none⟩) (Kd.R_types HO598.out BK600.out (by decide)) (fun _ hk => hk.2) (.slice Ao18 t596.length co18)) (fun _ h_ => h_.1))))); (case side2 => exact (Kd.R_reads' HO598.out).2.1); (case side3 => refine (Kd.R_reads' (e := 3) (base := w.heap.size) (ok := fun k_ => (((True ∧ some k_ ≠ (.slice Ao9 t585.length co9 : Value).ownBlock) ∧ some k_ ≠ (.slice Ao15 t593.length co15 : Value).ownBlock) ∧ some k_ ≠ (.slice Ao18 t596.length co18 : Value).ownBlock)) (n := t588.length) (c := co12) ?_).2.2; exact (zR ((Kd.R_mono (Kd.R_far (p := ⟨gb600, 0, none⟩) (Kd.R_types HO590.out BK600.out (by decide)) (fun _ hk => hk.2) (.slice Ao18 t596.length co18)) (fun _ h_ => h_.1))))); (case side4 => exact (Kd.R_reads' HO590.out).2.1); rintro e w26 ⟨rfl, hb⟩; refine ⟨_, rfl, ?_⟩; have n0_ := Aside0.mk (Kd.R_below (zR ((Kd.R_mono (Kd.R_far (p := ⟨gb600, 0, none⟩) (Kd.R_types HO587.out BK600.out (by decide)) (fun _ hk => hk.2) (.slice Ao18 t596.length co18)) (fun _ h_ => h_.1)))) hb); have n1_ := Aside0.mk (Kd.R_below (zR ((Kd.R_mono (Kd.R_far (p := ⟨gb600, 0, none⟩) (Kd.R_types HO590.out BK600.out (by decide)) (fun _ hk => hk.2) (.slice Ao18 t596.length co18)) (fun _ h_ => h_.1)))) hb); have n2_ := Aside0.mk (Kd.R_below (zR ((Kd.R_mono (Kd.R_far (p := ⟨gb600, 0, none⟩) (Kd.R_types HO595.out BK600.out (by decide)) (fun _ hk => hk.2) (.slice Ao18 t596.length co18)) (fun _ h_ => h_.1)))) hb); have n3_ := Aside0.mk (Kd.R_below (zR ((Kd.R_mono (Kd.R_far (p := ⟨gb600, 0, none⟩) (Kd.R_types HO598.out BK600.out (by decide)) (fun _ hk => hk.2) (.slice Ao18 t596.length co18)) (fun _ h_ => h_.1)))) hb); have n4_ := Aside0.mk (blk_below (g := gb592) (o := .cells #[.slice Ao12 t588.length co12] 40 (0, 0)) (by (with_reducible repeat (first | refine blk_drewN ?_ _ | refine blk_drew ?_ | refine blk_alloc ?_ _)); refine blk_far ?_ NB592_600.out _; (with_reducible repeat (first | refine blk_drewN ?_ _ | refine blk_drew ?_ | refine blk_alloc ?_ _)); exact BK592.out) hb); have n5_ := Aside0.mk (blk_below (g := gb600) (o := .cells #[.slice Ao18 t596.length co18] 40 (0, 0)) (by (with_reducible repeat (first | refine blk_drewN ?_ _ | refine blk_drew ?_ | refine blk_alloc ?_ _)); refine blk_put (cs := #[.slice none 0 0]) ?_ 0 _ rfl; (with_reducible repeat (first | refine blk_drewN ?_ _ | refine blk_drew ?_ | refine blk_alloc ?_ _)); exact BK600.out) hb); have n6_ := Aside0.mk (below_step (by repeat (first | (with_reducible first | exact HB.out | apply below_alloc | apply pw_below_drewN | apply below_drew1 | refine below_set ?_ GE592.out | refine below_set ?_ GE600.out) | exact HB.out)) hb); clear HO587; clear HO590; clear HO595; clear HO598; clear BK592; clear BK600; clear HB; have HO587 := n0_; have HO590 := n1_; have HO595 := n2_; have HO598 := n3_; have BK592 := n4_; have BK600 := n5_; have HB := n6_; clear n0_ n1_ n2_ n3_ n4_ n5_ n6_; (try clear hb); (try clear hb2); (try clear hk); (try clear hi)))
    go_meet
    case rel => exact ⟨_, ((t599 != t591)), (by first | rfl | (simp; done) | (simp [*]; done)), H', ⟨by first | omega | exact Nat.le_refl _⟩, ⟨zR (Kd.R_mono HO595.out (fun _ hk => by first | exact ⟨hk.1.2, hk.2⟩ | (revert hk; simp +contextual)))⟩, ⟨zR (Kd.R_mono HO590.out (fun _ hk => by first | exact ⟨hk.1.2, hk.2⟩ | (revert hk; simp +contextual)))⟩, ⟨zR (Kd.R_mono HO598.out (fun _ hk => by first | exact ⟨hk.2, hk.1.2⟩ | (revert hk; simp +contextual)))⟩, ⟨zk BK592.out⟩, ⟨zk BK600.out⟩, ⟨by repeat (first | (with_reducible first | exact HB.out | apply below_alloc | apply pw_below_drewN | apply below_drew1 | refine below_set ?_ GE592.out | refine below_set ?_ GE600.out) | exact HB.out)⟩⟩
   ·replace c22 := Bool.eq_false_iff.mpr c22
    subst c22
    rw [zF] at H
    have H' := Aside0.mk H
    clear H
    have hnb27 := NB600_592.out
    have hnc27 := NB592_600.out
    have hcz28_0 : w17.cell? ⟨gb600, 0, none⟩ = some (.slice none 0 0) := (blk_cell BK600.out 0).trans rfl
    have hfz28_0 := blk_frozen BK600.out 0
    have hcz29_0 : w17.cell? ⟨gb592, 0, none⟩ = some (.slice Ao12 t588.length co12) := (blk_cell BK592.out 0).trans rfl
    have hfz29_0 := blk_frozen BK592.out 0
    go_wp2_with (first | ((with_reducible refine gate_callee (f := 58) rfl ?_); refine goesL_ (some 31) rfl rfl Try.func58 (by kernel_rfl) rfl #[.agg #[.slice Ao18 t596.length co18], .agg #[.slice Ao12 t588.length co12]] rfl (by (try simp only [za, zc, zn]); first | done | rfl | (simp only [List.length_drop, List.length_take]; rfl)) ?_; (with_reducible refine (laws_eqSemigroup.calls k _ _ t596 _ _ t588 false _ ?side1 ?side2 ?side3 ?side4 A21.out).mono ?_); (case side1 => refine (Kd.R_reads' (e := 3) (base := w.heap.size) (ok := fun k_ => (((True ∧ some k_ ≠ (.slice Ao9 t585.length co9 : Value).ownBlock) ∧ some k_ ≠ (.slice Ao12 t588.length co12 : Value).ownBlock) ∧ some k_ ≠ (.slice Ao15 t593.length co15 : Value).ownBlock)) (n := t596.length) (c := co18) ?_).2.2; exact (zR ((Kd.R_mono (Kd.R_far (p := ⟨gb600, 0, none⟩) (Kd.R_types HO598.out BK600.out (by decide)) (fun _ hk => hk.2) (.slice Ao18 t596.length co18)) (fun _ h_ => h_.1))))); (case side2 => exact (Kd.R_reads' HO598.out).2.1); (case side3 => refine (Kd.R_reads' (e := 3) (base := w.heap.size) (ok := fun k_ => (((True ∧ some k_ ≠ (.slice Ao9 t585.length co9 : Value).ownBlock) ∧ some k_ ≠ (.slice Ao15 t593.length co15 : Value).ownBlock) ∧ some k_ ≠ (.slice Ao18 t596.length co18 : Value).ownBlock)) (n := t588.length) (c := co12) ?_).2.2; exact (zR ((Kd.R_mono (Kd.R_far (p := ⟨gb600, 0, none⟩) (Kd.R_types HO590.out BK600.out (by decide)) (fun _ hk => hk.2) (.slice Ao18 t596.length co18)) (fun _ h_ => h_.1))))); (case side4 => exact (Kd.R_reads' HO590.out).2.1); rintro e w30 ⟨rfl, hb⟩; refine ⟨_, rfl, ?_⟩; have n0_ := Aside0.mk (Kd.R_below (zR ((Kd.R_mono (Kd.R_far (p := ⟨gb600, 0, none⟩) (Kd.R_types HO587.out BK600.out (by decide)) (fun _ hk => hk.2) (.slice Ao18 t596.length co18)) (fun _ h_ => h_.1)))) hb); have n1_ := Aside0.mk (Kd.R_below (zR ((Kd.R_mono (Kd.R_far (p := ⟨gb600, 0, none⟩) (Kd.R_types HO590.out BK600.out (by decide)) (fun _ hk => hk.2) (.slice Ao18 t596.length co18)) (fun _ h_ => h_.1)))) hb); have n2_ := Aside0.mk (Kd.R_below (zR ((Kd.R_mono (Kd.R_far (p := ⟨gb600, 0, none⟩) (Kd.R_types HO595.out BK600.out (by decide)) (fun _ hk => hk.2) (.slice Ao18 t596.length co18)) (fun _ h_ => h_.1)))) hb); have n3_ := Aside0.mk (Kd.R_below (zR ((Kd.R_mono (Kd.R_far (p := ⟨gb600, 0, none⟩) (Kd.R_types HO598.out BK600.out (by decide)) (fun _ hk => hk.2) (.slice Ao18 t596.length co18)) (fun _ h_ => h_.1)))) hb); have n4_ := Aside0.mk (blk_below (g := gb592) (o := .cells #[.slice Ao12 t588.length co12] 40 (0, 0)) (by (with_reducible repeat (first | refine blk_drewN ?_ _ | refine blk_drew ?_ | refine blk_alloc ?_ _)); refine blk_far ?_ NB592_600.out _; (with_reducible repeat (first | refine blk_drewN ?_ _ | refine blk_drew ?_ | refine blk_alloc ?_ _)); exact BK592.out) hb); have n5_ := Aside0.mk (blk_below (g := gb600) (o := .cells #[.slice Ao18 t596.length co18] 40 (0, 0)) (by (with_reducible repeat (first | refine blk_drewN ?_ _ | refine blk_drew ?_ | refine blk_alloc ?_ _)); refine blk_put (cs := #[.slice none 0 0]) ?_ 0 _ rfl; (with_reducible repeat (first | refine blk_drewN ?_ _ | refine blk_drew ?_ | refine blk_alloc ?_ _)); exact BK600.out) hb); have n6_ := Aside0.mk (below_step (by repeat (first | (with_reducible first | exact HB.out | apply below_alloc | apply pw_below_drewN | apply below_drew1 | refine below_set ?_ GE592.out | refine below_set ?_ GE600.out) | exact HB.out)) hb); clear HO587; clear HO590; clear HO595; clear HO598; clear BK592; clear BK600; clear HB; have HO587 := n0_; have HO590 := n1_; have HO595 := n2_; have HO598 := n3_; have BK592 := n4_; have BK600 := n5_; have HB := n6_; clear n0_ n1_ n2_ n3_ n4_ n5_ n6_; (try clear hb); (try clear hb2); (try clear hk); (try clear hi)))
    go_meet
    case rel => exact ⟨_, (true), (by first | rfl | (simp; done) | (simp [*]; done)), H', ⟨by first | omega | exact Nat.le_refl _⟩, ⟨zR (Kd.R_mono HO595.out (fun _ hk => by first | exact ⟨hk.1.2, hk.2⟩ | (revert hk; simp +contextual)))⟩, ⟨zR (Kd.R_mono HO590.out (fun _ hk => by first | exact ⟨hk.1.2, hk.2⟩ | (revert hk; simp +contextual)))⟩, ⟨zR (Kd.R_mono HO598.out (fun _ hk => by first | exact ⟨hk.2, hk.1.2⟩ | (revert hk; simp +contextual)))⟩, ⟨zk BK592.out⟩, ⟨zk BK600.out⟩, ⟨by repeat (first | (with_reducible first | exact HB.out | apply below_alloc | apply pw_below_drewN | apply below_drew1 | refine below_set ?_ GE592.out | refine below_set ?_ GE600.out) | exact HB.out)⟩⟩
  case rest =>
   clear HC7
   try clear c1
   try clear c2
   try clear c2b0
   try clear c2b1
   try clear p2
   try clear c5
   try clear c8
   try clear c13
   try clear c19
   try clear c22
   try clear c23
   try clear c27
   try clear hcz13_0
   try clear hcz20_0
   try clear hcz24_0
   try clear hcz25_0
   try clear hcz28_0
   try clear hcz29_0
   try clear hfz13_0
   try clear hfz20_0
   try clear hfz24_0
   try clear hfz25_0
   try clear hfz28_0
   try clear hfz29_0
   obtain ⟨kq, x37_6, rfl, HA, HJ6, HO_5, HO_593000, HO_601000, BK592, BK600, HB⟩ := hcut
   cases kq with
   | zero => exact absurd HA.out (by simp [laws_FnExactFromApery.j0])
   | succ kj6 =>
    have H := HA.out
    clear HA
    simp only [laws_FnExactFromApery.j0] at H
    by_cases c31 : x37_6 = true
    ·subst c31
     rw [zT] at H
     obtain rfl := Option.some.inj H
     go_wp2
     go_ret
     exact ⟨by first | rfl | (simp [errW_none, errW_some] <;> rfl) | (simp [*, errW_none, errW_some] <;> rfl), by repeat (first | (with_reducible first | exact HB.out | apply below_alloc | apply pw_below_drewN | apply below_drew1 | refine below_set ?_ GE592.out | refine below_set ?_ GE600.out) | exact HB.out)⟩
    ·replace c31 := Bool.eq_false_iff.mpr c31
     subst c31
     rw [zF] at H
     obtain ⟨t602, A32, H⟩ := zb H
     obtain ⟨t605, A33, H⟩ := zb H
     have HU34 := Aside0.mk H
     clear H
     go_upto_if 42 with (first | ((with_reducible refine gate_callee (f := 27) rfl ?_); refine goesL_ (some 40) rfl rfl Try.func27 (by kernel_rfl) rfl #[.slice A0 l0.length c0] rfl (by (try simp only [za, zc, zn]); first | done | rfl | (simp only [List.length_drop, List.length_take]; rfl)) ?_; (with_reducible refine (laws_toIntS.calls kj6 _ _ l0 t602 _ ?side1 ?side2 A32.out).mono ?_); (case side1 => exact zC (Kd.C_below HR0.out HB.out)); (case side2 => exact HC0.out); rintro e w35 ⟨v603, rfl, ho0, hb⟩; refine ⟨_, rfl, ?_⟩; have n0_ := Aside0.mk (Kd.R_elder' (zR HO_5.out) (Kd.R_base ho0) hb); have n1_ := Aside0.mk (Kd.R_elder' (zR HO_593000.out) (Kd.R_base ho0) hb); have n2_ := Aside0.mk (Kd.R_elder' (zR HO_601000.out) (Kd.R_base ho0) hb); have n3_ := Aside0.mk (Kd.R_lower (Kd.R_new' (Kd.R_new' (Kd.R_new' ho0 (Kd.R_lt (zR HO_5.out))) (Kd.R_lt (zR HO_593000.out))) (Kd.R_lt (zR HO_601000.out))) (below_size (by repeat (first | (with_reducible first | exact HB.out | apply below_alloc | apply pw_below_drewN | apply below_drew1 | refine below_set ?_ GE592.out | refine below_set ?_ GE600.out) | exact HB.out)))); have n4_ := Aside0.mk (blk_below (g := gb592) (o := .cells #[.slice Ao12 t588.length co12] 40 (0, 0)) (zk BK592.out) hb); have n5_ := Aside0.mk (blk_below (g := gb600) (o := .cells #[.slice Ao18 t596.length co18] 40 (0, 0)) (zk BK600.out) hb); have n6_ := Aside0.mk (below_step (by repeat (first | (with_reducible first | exact HB.out | apply below_alloc | apply pw_below_drewN | apply below_drew1 | refine below_set ?_ GE592.out | refine below_set ?_ GE600.out) | exact HB.out)) hb); clear HO_5; clear HO_593000; clear HO_601000; clear BK592; clear BK600; clear HB; have HO_5 := n0_; have HO_593000 := n1_; have HO_601000 := n2_; have HO604 := n3_; have BK592 := n4_; have BK600 := n5_; have HB := n6_; clear n0_ n1_ n2_ n3_ n4_ n5_ n6_; (try clear hb); (try clear hb2); (try clear hk); (try clear hi); (try clear ho0); obtain ⟨Ao36, co36, eo36⟩ := Kd.R_slice HO604.out; subst eo36) | ((with_reducible refine gate_callee (f := 29) rfl ?_); refine goesL_ (some 41) rfl rfl Try.func29 (by kernel_rfl) rfl #[.slice Ao15 t593.length co15, .slice Ao36 t602.length co36] rfl (by (try simp only [za, zc, zn]); first | done | rfl | (simp only [List.length_drop, List.length_take]; rfl)) ?_; (with_reducible refine (laws_eqIntS.calls kj6 _ _ t593 _ _ t602 t605 _ ?side1 ?side2 ?side3 ?side4 A33.out).mono ?_); (case side1 => repeat (first | exact (Kd.R_reads' HO_5.out).2.2 | (with_reducible refine Kd.C_alloc ?_ _) | (with_reducible refine Kd.C_drewN ?_ _) | (with_reducible refine Kd.C_drew ?_))); (case side2 => exact (Kd.R_reads' HO_5.out).2.1); (case side3 => repeat (first | exact (Kd.R_reads' HO604.out).2.2 | (with_reducible refine Kd.C_alloc ?_ _) | (with_reducible refine Kd.C_drewN ?_ _) | (with_reducible refine Kd.C_drew ?_))); (case side4 => exact (Kd.R_reads' HO604.out).2.1); rintro e w' ⟨rfl, ⟨nd, rfl⟩⟩; refine ⟨_, rfl, ?_⟩))
     (try simp only [Act.put, List.setIfInBounds_toArray, List.set_cons_zero, List.set_cons_succ])
     have H := HU34.out
     clear HU34
     by_cases c37 : t605 = true
     ·subst c37
      rw [zT] at H
      obtain ⟨⟨t606, t607⟩, A38, H⟩ := zb H
      replace H : (if t606 < 0 then (laws_FnExactFromApery.j1 kj6 l0 t591 true t588 t596) else ((laws_eqSemigroup.f kj6 t596 t588).bind fun t608 => (if t608 = true then (laws_FnExactFromApery.j1 kj6 l0 t591 (t599 != t591) t588 t596) else (laws_FnExactFromApery.j1 kj6 l0 t591 true t588 t596)))) = some r := H
      have HC39 := Aside0.mk H
      clear H
      go_upto_region 12 with (first | ((with_reducible refine gate_callee (f := 30) rfl ?_); refine goesL_ (some 45) rfl rfl Try.func30 (by kernel_rfl) rfl #[.slice Ao15 t593.length co15, .int .i64 1] rfl (by (try simp only [za, zc, zn]); first | done | rfl | (simp only [List.length_drop, List.length_take]; rfl)) ?_; (with_reducible refine (laws_markIntS.calls kj6 (fun k_ => some k_ = (.slice Ao15 t593.length co15 : Value).ownBlock) (.slice Ao15 t593.length co15) t593 1 t606 t607 w _ ?side1 ?side2 A38.out).mono ?_); (case side1 => repeat (first | (with_reducible first | exact HB.out | apply below_alloc | apply pw_below_drewN | apply below_drew1 | refine below_set ?_ GE592.out | refine below_set ?_ GE600.out) | exact HB.out)); (case side2 => exact Kd.R_tight rfl HO_5.out); rintro e w40 ⟨rfl, hy0, hb, hkp⟩; refine ⟨_, rfl, ?_⟩; have n0_ := Aside0.mk (Kd.R_reok rfl hy0 (fun k_ e_ => HO_5.out.1 k_ e_)); have n1_ := Aside0.mk (Kd.R_mono (ok' := fun k_ => some k_ ≠ (.slice Ao15 t593.length co15 : Value).ownBlock ∧ some k_ ≠ (.slice Ao18 t596.length co18 : Value).ownBlock ∧ some k_ ≠ (.slice Ao36 t602.length co36 : Value).ownBlock) (Kd.R_keptB (HO_593000.out) hkp (fun k_ hk_ hs_ => by first | exact (hk_.1.1) hs_ | (revert hk_ hs_; simp +contextual))) (fun k_ hk_ => by first | exact ⟨hk_.1.1.1, hk_.1.1.2, hk_.1.2⟩ | (revert hk_; simp +contextual))); have n2_ := Aside0.mk (Kd.R_mono (ok' := fun k_ => some k_ ≠ (.slice Ao15 t593.length co15 : Value).ownBlock ∧ some k_ ≠ (.slice Ao12 t588.length co12 : Value).ownBlock ∧ some k_ ≠ (.slice Ao36 t602.length co36 : Value).ownBlock) (Kd.R_keptB (HO_601000.out) hkp (fun k_ hk_ hs_ => by first | exact (hk_.1.1) hs_ | (revert hk_ hs_; simp +contextual))) (fun k_ hk_ => by first | exact ⟨hk_.1.1.1, hk_.1.1.2, hk_.1.2⟩ | (revert hk_; simp +contextual))); have n3_ := Aside0.mk (blk_kept (zk BK592.out) hkp (fun hs_ => (fun e_ => (Kd.R_ne HO_5.out BK592.out (by decide)) e_) hs_)); have n4_ := Aside0.mk (blk_kept (zk BK600.out) hkp (fun hs_ => (fun e_ => (Kd.R_ne HO_5.out BK600.out (by decide)) e_) hs_)); have n5_ := Aside0.mk (Kd.R_mono (ok' := fun k_ => some k_ ≠ (.slice Ao15 t593.length co15 : Value).ownBlock ∧ some k_ ≠ (.slice Ao12 t588.length co12 : Value).ownBlock ∧ some k_ ≠ (.slice Ao18 t596.length co18 : Value).ownBlock) (Kd.R_keptB (HO604.out) hkp (fun k_ hk_ hs_ => by first | exact (hk_.1.1.2) hs_ | (revert hk_ hs_; simp +contextual))) (fun k_ hk_ => by first | exact ⟨hk_.1.1.1.2, hk_.1.1.2, hk_.1.2⟩ | (revert hk_; simp +contextual))); have n6_ := Aside0.mk (hb); clear HO_5; clear HO_593000; clear HO_601000; clear BK592; clear BK600; clear HO604; clear HB; have HO_5 := n0_; have HO_593000 := n1_; have HO_601000 := n2_; have BK592 := n3_; have BK600 := n4_; have HO604 := n5_; have HB := n6_; clear n0_ n1_ n2_ n3_ n4_ n5_ n6_; (try clear hb); (try clear hkp); (try clear hy0)))
      (try simp only [Act.put, List.setIfInBounds_toArray, List.set_cons_zero, List.set_cons_succ])
      go_cut [58] (fun v58 wc => ∃ (kq : Nat) (x58_38 : Bool), v58 = .bool x58_38 ∧ Aside0 (laws_FnExactFromApery.j1 kq l0 t591 x58_38 t588 t596 = some r) ∧ Aside0 (kq ≤ kj6) ∧ Aside0 (Kd.R (Kd.int .i64) 3 wc w.heap.size (fun k_ => some k_ ≠ ((.slice Ao18 t596.length co18) : Value).ownBlock) (.slice Ao12 t588.length co12) t588) ∧ Aside0 (Kd.R (Kd.int .i64) 3 wc w.heap.size (fun k_ => some k_ ≠ ((.slice Ao12 t588.length co12) : Value).ownBlock) (.slice Ao18 t596.length co18) t596) ∧ Aside0 (wc.heap[gb592]? = some (.cells #[(.slice Ao12 t588.length co12)] 40 (0, 0))) ∧ Aside0 (wc.heap[gb600]? = some (.cells #[(.slice Ao18 t596.length co18)] 40 (0, 0))) ∧ Aside0 (Below w.heap.size w wc))
      case first =>
       have H := HC39.out
       clear HC39
       by_cases c41 : t606 < 0
       ·rw [if_pos c41] at H
        have c41b0 : decide (t606 < 0) = true := decide_eq_true c41
        clear c41
        (first | rw [c41b0] | rw [c41b1] | (simp only [i64_w, i32_w]; rw [c41b0]) | skip)
        have H' := Aside0.mk H
        clear H
        go_wp2
        go_meet
        case rel => exact ⟨_, (true), (by first | rfl | (simp; done) | (simp [*]; done)), H', ⟨by have := HJ6.out; first | omega | exact Nat.le_refl _⟩, ⟨zR (Kd.R_mono HO_593000.out (fun _ hk => hk.2.1))⟩, ⟨zR (Kd.R_mono HO_601000.out (fun _ hk => hk.2.1))⟩, ⟨zk BK592.out⟩, ⟨zk BK600.out⟩, ⟨by repeat (first | (with_reducible first | exact HB.out | apply below_alloc | apply pw_below_drewN | apply below_drew1 | refine below_set ?_ GE592.out | refine below_set ?_ GE600.out) | exact HB.out)⟩⟩
       ·rw [if_neg c41] at H
        have c41b0 : decide (t606 < 0) = false := decide_eq_false c41
        clear c41
        (first | rw [c41b0] | rw [c41b1] | (simp only [i64_w, i32_w]; rw [c41b0]) | skip)
        obtain ⟨t608, A42, H⟩ := zb H
        by_cases c43 : t608 = true
        ·subst c43
         rw [zT] at H
         have H' := Aside0.mk H
         clear H
         have hnb44 := NB600_592.out
         have hnc44 := NB592_600.out
         have hcz45_0 : w40.cell? ⟨gb600, 0, none⟩ = some (.slice Ao18 t596.length co18) := (blk_cell BK600.out 0).trans rfl
         have hfz45_0 := blk_frozen BK600.out 0
         have hcz46_0 : w40.cell? ⟨gb592, 0, none⟩ = some (.slice Ao12 t588.length co12) := (blk_cell BK592.out 0).trans rfl
         have hfz46_0 := blk_frozen BK592.out 0
         go_wp2_with (first | (go_at_call 58; (with_reducible refine (laws_eqSemigroup.calls kj6 _ _ t596 _ _ t588 true _ ?side1 ?side2 ?side3 ?side4 A42.out).mono ?_); (case side1 => repeat (first | exact (Kd.R_reads' HO_601000.out).2.2 | (with_reducible refine Kd.C_alloc ?_ _) | (with_reducible refine Kd.C_drewN ?_ _) | (with_reducible refine Kd.C_drew ?_))); (case side2 => exact (Kd.R_reads' HO_601000.out).2.1); (case side3 => repeat (first | exact (Kd.R_reads' HO_593000.out).2.2 | (with_reducible refine Kd.C_alloc ?_ _) | (with_reducible refine Kd.C_drewN ?_ _) | (with_reducible refine Kd.C_drew ?_))); (case side4 => exact (Kd.R_reads' HO_593000.out).2.1); rintro e w47 ⟨rfl, hb⟩; have n0_ := Aside0.mk (Kd.R_below (zR HO_5.out) hb); have n1_ := Aside0.mk (Kd.R_below (zR HO_593000.out) hb); have n2_ := Aside0.mk (Kd.R_below (zR HO_601000.out) hb); have n3_ := Aside0.mk (Kd.R_below (zR HO604.out) hb); have n4_ := Aside0.mk (blk_below (g := gb592) (o := .cells #[.slice Ao12 t588.length co12] 40 (0, 0)) (zk BK592.out) hb); have n5_ := Aside0.mk (blk_below (g := gb600) (o := .cells #[.slice Ao18 t596.length co18] 40 (0, 0)) (zk BK600.out) hb); have n6_ := Aside0.mk (below_step (by repeat (first | (with_reducible first | exact HB.out | apply below_alloc | apply pw_below_drewN | apply below_drew1 | refine below_set ?_ GE592.out | refine below_set ?_ GE600.out) | exact HB.out)) hb); clear HO_5; clear HO_593000; clear HO_601000; clear HO604; clear BK592; clear BK600; clear HB; have HO_5 := n0_; have HO_593000 := n1_; have HO_601000 := n2_; have HO604 := n3_; have BK592 := n4_; have BK600 := n5_; have HB := n6_; clear n0_ n1_ n2_ n3_ n4_ n5_ n6_; (try clear hb); (try clear hb2); (try clear hk); (try clear hi)))
         go_meet
         case rel => exact ⟨_, ((t599 != t591)), (by first | rfl | (simp; done) | (simp [*]; done)), H', ⟨by have := HJ6.out; first | omega | exact Nat.le_refl _⟩, ⟨zR (Kd.R_mono HO_593000.out (fun _ hk => hk.2.1))⟩, ⟨zR (Kd.R_mono HO_601000.out (fun _ hk => hk.2.1))⟩, ⟨zk BK592.out⟩, ⟨zk BK600.out⟩, ⟨by repeat (first | (with_reducible first | exact HB.out | apply below_alloc | apply pw_below_drewN | apply below_drew1 | refine below_set ?_ GE592.out | refine below_set ?_ GE600.out) | exact HB.out)⟩⟩
        ·replace c43 := Bool.eq_false_iff.mpr c43
         subst c43
         rw [zF] at H
         have H' := Aside0.mk H
         clear H
         have hnb48 := NB600_592.out
         have hnc48 := NB592_600.out
         have hcz49_0 : w40.cell? ⟨gb600, 0, none⟩ = some (.slice Ao18 t596.length co18) := (blk_cell BK600.out 0).trans rfl
         have hfz49_0 := blk_frozen BK600.out 0
         have hcz50_0 : w40.cell? ⟨gb592, 0, none⟩ = some (.slice Ao12 t588.length co12) := (blk_cell BK592.out 0).trans rfl
         have hfz50_0 := blk_frozen BK592.out 0
         go_wp2_with (first | (go_at_call 58; (with_reducible refine (laws_eqSemigroup.calls kj6 _ _ t596 _ _ t588 false _ ?side1 ?side2 ?side3 ?side4 A42.out).mono ?_); (case side1 => repeat (first | exact (Kd.R_reads' HO_601000.out).2.2 | (with_reducible refine Kd.C_alloc ?_ _) | (with_reducible refine Kd.C_drewN ?_ _) | (with_reducible refine Kd.C_drew ?_))); (case side2 => exact (Kd.R_reads' HO_601000.out).2.1); (case side3 => repeat (first | exact (Kd.R_reads' HO_593000.out).2.2 | (with_reducible refine Kd.C_alloc ?_ _) | (with_reducible refine Kd.C_drewN ?_ _) | (with_reducible refine Kd.C_drew ?_))); (case side4 => exact (Kd.R_reads' HO_593000.out).2.1); rintro e w51 ⟨rfl, hb⟩; have n0_ := Aside0.mk (Kd.R_below (zR HO_5.out) hb); have n1_ := Aside0.mk (Kd.R_below (zR HO_593000.out) hb); have n2_ := Aside0.mk (Kd.R_below (zR HO_601000.out) hb); have n3_ := Aside0.mk (Kd.R_below (zR HO604.out) hb); have n4_ := Aside0.mk (blk_below (g := gb592) (o := .cells #[.slice Ao12 t588.length co12] 40 (0, 0)) (zk BK592.out) hb); have n5_ := Aside0.mk (blk_below (g := gb600) (o := .cells #[.slice Ao18 t596.length co18] 40 (0, 0)) (zk BK600.out) hb); have n6_ := Aside0.mk (below_step (by repeat (first | (with_reducible first | exact HB.out | apply below_alloc | apply pw_below_drewN | apply below_drew1 | refine below_set ?_ GE592.out | refine below_set ?_ GE600.out) | exact HB.out)) hb); clear HO_5; clear HO_593000; clear HO_601000; clear HO604; clear BK592; clear BK600; clear HB; have HO_5 := n0_; have HO_593000 := n1_; have HO_601000 := n2_; have HO604 := n3_; have BK592 := n4_; have BK600 := n5_; have HB := n6_; clear n0_ n1_ n2_ n3_ n4_ n5_ n6_; (try clear hb); (try clear hb2); (try clear hk); (try clear hi)))
         go_meet
         case rel => exact ⟨_, (true), (by first | rfl | (simp; done) | (simp [*]; done)), H', ⟨by have := HJ6.out; first | omega | exact Nat.le_refl _⟩, ⟨zR (Kd.R_mono HO_593000.out (fun _ hk => hk.2.1))⟩, ⟨zR (Kd.R_mono HO_601000.out (fun _ hk => hk.2.1))⟩, ⟨zk BK592.out⟩, ⟨zk BK600.out⟩, ⟨by repeat (first | (with_reducible first | exact HB.out | apply below_alloc | apply pw_below_drewN | apply below_drew1 | refine below_set ?_ GE592.out | refine below_set ?_ GE600.out) | exact HB.out)⟩⟩
      case rest =>
       clear HC39
       try clear c1
       try clear c2
       try clear c2b0
       try clear c2b1
       try clear p2
       try clear c3
       try clear c4
       try clear c5
       try clear c8
       try clear c13
       try clear c19
       try clear c22
       try clear c23
       try clear c27
       try clear c29
       try clear c30
       try clear c31
       try clear c37
       try clear c41
       try clear c41b0
       try clear c43
       try clear c44
       try clear c48
       try clear hcz13_0
       try clear hcz20_0
       try clear hcz24_0
       try clear hcz25_0
       try clear hcz28_0
       try clear hcz29_0
       try clear hcz45_0
       try clear hcz46_0
       try clear hcz49_0
       try clear hcz50_0
       try clear hfz13_0
       try clear hfz20_0
       try clear hfz24_0
       try clear hfz25_0
       try clear hfz28_0
       try clear hfz29_0
       try clear hfz45_0
       try clear hfz46_0
       try clear hfz49_0
       try clear hfz50_0
       try clear p2
       obtain ⟨kq, x58_38, rfl, HA, HJ38, HO_593000, HO_601000, BK592, BK600, HB⟩ := hcut
       cases kq with
       | zero => exact absurd HA.out (by simp [laws_FnExactFromApery.j1])
       | succ kj38 =>
        have H := HA.out
        clear HA
        simp only [laws_FnExactFromApery.j1] at H
        by_cases c52 : x58_38 = true
        ·subst c52
         rw [zT] at H
         obtain rfl := Option.some.inj H
         go_wp2
         go_ret
         exact ⟨by first | rfl | (simp [errW_none, errW_some] <;> rfl) | (simp [*, errW_none, errW_some] <;> rfl), by repeat (first | (with_reducible first | exact HB.out | apply below_alloc | apply pw_below_drewN | apply below_drew1 | refine below_set ?_ GE592.out | refine below_set ?_ GE600.out) | exact HB.out)⟩
        ·replace c52 := Bool.eq_false_iff.mpr c52
         subst c52
         rw [zF] at H
         obtain ⟨⟨t609, t610⟩, A53, H⟩ := zb H
         replace H : ((laws_heldSemigroup.f kj38 t610 1).bind fun t611 => (if t611 < 0 then (some false) else (if t611 = t609 then ((laws_toIntS.f kj38 l0).bind fun t612 => ((impl_FromApery.f kj38 t612).bind fun bt615 => ((laws_eqSemigroup.f kj38 bt615.1 t588).bind fun t620 => (if t620 = true then (laws_FnExactFromApery.j2 kj38 t609 (bt615.2 != t591) t610) else (laws_FnExactFromApery.j2 kj38 t609 true t610))))) else (some false)))) = some r := H
         obtain ⟨t611, A54, H⟩ := zb H
         have HU55 := Aside0.mk H
         clear H
         have hnb56 := NB600_592.out
         have hnc56 := NB592_600.out
         have hcz57_0 : wc.cell? ⟨gb600, 0, none⟩ = some (.slice Ao18 t596.length co18) := (blk_cell BK600.out 0).trans rfl
         have hfz57_0 := blk_frozen BK600.out 0
         go_upto_if 66 with (first | ((with_reducible refine gate_callee (f := 59) rfl ?_); refine goesL_ (some 61) rfl rfl Try.func59 (by kernel_rfl) rfl #[.agg #[.slice Ao18 t596.length co18], .int .i64 1] rfl (by (try simp only [za, zc, zn]); first | done | rfl | (simp only [List.length_drop, List.length_take]; rfl)) ?_; (with_reducible refine (laws_markSemigroup.calls kj38 (fun k_ => some k_ = (.slice Ao18 t596.length co18 : Value).ownBlock) (.slice Ao18 t596.length co18) t596 1 t609 t610 w _ ?side1 ?side2 A53.out).mono ?_); (case side1 => repeat (first | (with_reducible first | exact HB.out | apply below_alloc | apply pw_below_drewN | apply below_drew1 | refine below_set ?_ GE592.out | refine below_set ?_ GE600.out) | exact HB.out)); (case side2 => exact Kd.R_tight rfl HO_601000.out); rintro e w58 ⟨rfl, hy0, hb, hkp⟩; refine ⟨_, rfl, ?_⟩; have n0_ := Aside0.mk (Kd.R_mono (ok' := fun k_ => some k_ ≠ (.slice Ao18 t596.length co18 : Value).ownBlock) (Kd.R_keptB (HO_593000.out) hkp (fun k_ hk_ hs_ => by first | exact (hk_) hs_ | (revert hk_ hs_; simp +contextual))) (fun k_ hk_ => hk_.1)); have n1_ := Aside0.mk (Kd.R_reok rfl hy0 (fun k_ e_ => HO_601000.out.1 k_ e_)); have n2_ := Aside0.mk (blk_kept (zk BK592.out) hkp (fun hs_ => (fun e_ => (Kd.R_ne HO_601000.out BK592.out (by decide)) e_) hs_)); have n3_ := Aside0.mk (blk_kept (zk BK600.out) hkp (fun hs_ => (fun e_ => (Kd.R_ne HO_601000.out BK600.out (by decide)) e_) hs_)); have n4_ := Aside0.mk (hb); clear HO_593000; clear HO_601000; clear BK592; clear BK600; clear HB; have HO_593000 := n0_; have HO_601000 := n1_; have BK592 := n2_; have BK600 := n3_; have HB := n4_; clear n0_ n1_ n2_ n3_ n4_; (try clear hb); (try clear hkp); (try clear hy0); have hcz59_0 : w58.cell? ⟨gb600, 0, none⟩ = some (.slice Ao18 t596.length co18) := (blk_cell BK600.out 0).trans rfl; have hfz59_0 := blk_frozen BK600.out 0) | ((with_reducible refine gate_callee (f := 60) rfl ?_); refine goesL_ (some 64) rfl rfl Try.func60 (by kernel_rfl) rfl #[.agg #[.slice Ao18 t610.length co18], .int .i64 1] rfl (by (try simp only [List.map_toArray, List.map_cons, List.map_nil]); first | done | (rw [show t610.length = t596.length from (Kd.R_reads' HO_601000.out).1.symm] <;> rfl) | rfl | (simp only [List.length_drop, List.length_take]; rfl)) ?_; (with_reducible refine (laws_heldSemigroup.calls kj38 _ _ t610 1 t611 _ ?side1 ?side2 A54.out).mono ?_); (case side1 => repeat (first | exact (Kd.R_reads' HO_601000.out).2.2 | (with_reducible refine Kd.C_alloc ?_ _) | (with_reducible refine Kd.C_drewN ?_ _) | (with_reducible refine Kd.C_drew ?_))); (case side2 => rw [show t610.length = t596.length from (Kd.R_reads' HO_601000.out).1.symm]; exact (Kd.R_reads' HO_601000.out).2.1); rintro e w60 ⟨rfl, hb⟩; refine ⟨_, rfl, ?_⟩; have n0_ := Aside0.mk (Kd.R_below (zR HO_593000.out) hb); have n1_ := Aside0.mk (Kd.R_below (zR HO_601000.out) hb); have n2_ := Aside0.mk (blk_below (g := gb592) (o := .cells #[.slice Ao12 t588.length co12] 40 (0, 0)) (zk BK592.out) hb); have n3_ := Aside0.mk (blk_below (g := gb600) (o := .cells #[.slice Ao18 t596.length co18] 40 (0, 0)) (zk BK600.out) hb); have n4_ := Aside0.mk (below_step (by repeat (first | (with_reducible first | exact HB.out | apply below_alloc | apply pw_below_drewN | apply below_drew1 | refine below_set ?_ GE592.out | refine below_set ?_ GE600.out) | exact HB.out)) hb); clear HO_593000; clear HO_601000; clear BK592; clear BK600; clear HB; have HO_593000 := n0_; have HO_601000 := n1_; have BK592 := n2_; have BK600 := n3_; have HB := n4_; clear n0_ n1_ n2_ n3_ n4_; (try clear hb); (try clear hb2); (try clear hk); (try clear hi)))
         (try simp only [Act.put, List.setIfInBounds_toArray, List.set_cons_zero, List.set_cons_succ])
         have H := HU55.out
         clear HU55
         by_cases c61 : t611 < 0
         ·rw [if_pos c61] at H
          have c61b0 : decide (t611 < 0) = true := decide_eq_true c61
          clear c61
          (first | rw [c61b0] | rw [c61b1] | (simp only [i64_w, i32_w]; rw [c61b0]) | skip)
          obtain rfl := Option.some.inj H
          go_wp2
          go_ret
          exact ⟨by first | rfl | (simp [errW_none, errW_some] <;> rfl) | (simp [*, errW_none, errW_some] <;> rfl), by repeat (first | (with_reducible first | exact HB.out | apply below_alloc | apply pw_below_drewN | apply below_drew1 | refine below_set ?_ GE592.out | refine below_set ?_ GE600.out) | exact HB.out)⟩
         ·rw [if_neg c61] at H
          have c61b0 : decide (t611 < 0) = false := decide_eq_false c61
          clear c61
          (first | rw [c61b0] | rw [c61b1] | (simp only [i64_w, i32_w]; rw [c61b0]) | skip)
          by_cases c62 : t611 = t609
          ·rw [if_pos c62] at H
           have c62b0 : (t611 == t609) = true := beq_iff_eq.mpr c62
           have c62b1 : (t611 != t609) = false := bne_eq_false_iff_eq.mpr c62
           clear c62
           obtain ⟨t612, A63, H⟩ := zb H
           obtain ⟨⟨t615, t618⟩, A64, H⟩ := zb H
           replace H : ((laws_eqSemigroup.f kj38 t615 t588).bind fun t620 => (if t620 = true then (laws_FnExactFromApery.j2 kj38 t609 (t618 != t591) t610) else (laws_FnExactFromApery.j2 kj38 t609 true t610))) = some r := H
           have HC65 := Aside0.mk H
           clear H
           go_upto_region 23 with (first | ((with_reducible refine gate_callee (f := 27) rfl ?_); refine goesL_ (some 72) rfl rfl Try.func27 (by kernel_rfl) rfl #[.slice A0 l0.length c0] rfl (by (try simp only [za, zc, zn]); first | done | rfl | (simp only [List.length_drop, List.length_take]; rfl)) ?_; (with_reducible refine (laws_toIntS.calls kj38 _ _ l0 t612 _ ?side1 ?side2 A63.out).mono ?_); (case side1 => exact zC (Kd.C_below HR0.out HB.out)); (case side2 => exact HC0.out); rintro e w66 ⟨v613, rfl, ho0, hb⟩; refine ⟨_, rfl, ?_⟩; have n0_ := Aside0.mk (Kd.R_elder' (zR HO_593000.out) (Kd.R_base ho0) hb); have n1_ := Aside0.mk (Kd.R_elder' (zR HO_601000.out) (Kd.R_base ho0) hb); have n2_ := Aside0.mk (Kd.R_lower (Kd.R_new' (Kd.R_new' ho0 (Kd.R_lt (zR HO_593000.out))) (Kd.R_lt (zR HO_601000.out))) (below_size (by repeat (first | (with_reducible first | exact HB.out | apply below_alloc | apply pw_below_drewN | apply below_drew1 | refine below_set ?_ GE592.out | refine below_set ?_ GE600.out) | exact HB.out)))); have n3_ := Aside0.mk (blk_below (g := gb592) (o := .cells #[.slice Ao12 t588.length co12] 40 (0, 0)) (zk BK592.out) hb); have n4_ := Aside0.mk (blk_below (g := gb600) (o := .cells #[.slice Ao18 t596.length co18] 40 (0, 0)) (zk BK600.out) hb); have n5_ := Aside0.mk (below_step (by repeat (first | (with_reducible first | exact HB.out | apply below_alloc | apply pw_below_drewN | apply below_drew1 | refine below_set ?_ GE592.out | refine below_set ?_ GE600.out) | exact HB.out)) hb); clear HO_593000; clear HO_601000; clear BK592; clear BK600; clear HB; have HO_593000 := n0_; have HO_601000 := n1_; have HO614 := n2_; have BK592 := n3_; have BK600 := n4_; have HB := n5_; clear n0_ n1_ n2_ n3_ n4_ n5_; (try clear hb); (try clear hb2); (try clear hk); (try clear hi); (try clear ho0); obtain ⟨Ao67, co67, eo67⟩ := Kd.R_slice HO614.out; subst eo67) | ((with_reducible refine gate_callee (f := 86) rfl ?_); refine goesL_ (some 73) rfl rfl Try.func86 (by kernel_rfl) rfl #[.slice Ao67 t612.length co67] rfl (by (try simp only [za, zc, zn]); first | done | rfl | (simp only [List.length_drop, List.length_take]; rfl)) ?_; (with_reducible refine (impl_FromApery.calls kj38 _ _ t612 t615 t618 _ ?side1 ?side2 A64.out).mono ?_); (case side1 => repeat (first | exact (Kd.R_reads' HO614.out).2.2 | (with_reducible refine Kd.C_alloc ?_ _) | (with_reducible refine Kd.C_drewN ?_ _) | (with_reducible refine Kd.C_drew ?_))); (case side2 => exact (Kd.R_reads' HO614.out).2.1); rintro e w68 ⟨v616, rfl, ho0, hb⟩; refine ⟨_, rfl, ?_⟩; have n0_ := Aside0.mk (Kd.R_elder' (zR HO_593000.out) (Kd.R_base ho0) hb); have n1_ := Aside0.mk (Kd.R_elder' (zR HO_601000.out) (Kd.R_base ho0) hb); have n2_ := Aside0.mk (Kd.R_elder' (zR HO614.out) (Kd.R_base ho0) hb); have n3_ := Aside0.mk (Kd.R_lower (Kd.R_new' (Kd.R_new' (Kd.R_new' ho0 (Kd.R_lt (zR HO_593000.out))) (Kd.R_lt (zR HO_601000.out))) (Kd.R_lt (zR HO614.out))) (below_size (by repeat (first | (with_reducible first | exact HB.out | apply below_alloc | apply pw_below_drewN | apply below_drew1 | refine below_set ?_ GE592.out | refine below_set ?_ GE600.out) | exact HB.out)))); have n4_ := Aside0.mk (blk_below (g := gb592) (o := .cells #[.slice Ao12 t588.length co12] 40 (0, 0)) (zk BK592.out) hb); have n5_ := Aside0.mk (blk_below (g := gb600) (o := .cells #[.slice Ao18 t596.length co18] 40 (0, 0)) (zk BK600.out) hb); have n6_ := Aside0.mk (below_step (by repeat (first | (with_reducible first | exact HB.out | apply below_alloc | apply pw_below_drewN | apply below_drew1 | refine below_set ?_ GE592.out | refine below_set ?_ GE600.out) | exact HB.out)) hb); clear HO_593000; clear HO_601000; clear HO614; clear BK592; clear BK600; clear HB; have HO_593000 := n0_; have HO_601000 := n1_; have HO614 := n2_; have HO617 := n3_; have BK592 := n4_; have BK600 := n5_; have HB := n6_; clear n0_ n1_ n2_ n3_ n4_ n5_ n6_; (try clear hb); (try clear hb2); (try clear hk); (try clear hi); (try clear ho0)) | ((with_reducible refine gate_dst (N := 11) rfl ?_); refine box_event ?hg (N := 11) ?hd (cs := #[.slice none 0 0]) (t := 40) ?hr ?_; (case hd => rfl); (case hg => rfl); (case hr => first | (go_simp; done) | (go_simp; rfl)); intro gb619 hg w69 hbox hb; have n0_ := Aside0.mk (Kd.R_below (zR HO_593000.out) hb); have n1_ := Aside0.mk (Kd.R_below (zR HO_601000.out) hb); have n2_ := Aside0.mk (Kd.R_below (zR HO614.out) hb); have n3_ := Aside0.mk (Kd.R_below (zR HO617.out) hb); have n4_ := Aside0.mk (blk_below (g := gb592) (o := .cells #[.slice Ao12 t588.length co12] 40 (0, 0)) (zk BK592.out) hb); have n5_ := Aside0.mk (blk_below (g := gb600) (o := .cells #[.slice Ao18 t596.length co18] 40 (0, 0)) (zk BK600.out) hb); have n6_ := Aside0.mk (below_step (by repeat (first | (with_reducible first | exact HB.out | apply below_alloc | apply pw_below_drewN | apply below_drew1 | refine below_set ?_ GE592.out | refine below_set ?_ GE600.out) | exact HB.out)) hb); have n7_ := Aside0.mk (hbox); have n8_ := Aside0.mk ((by rw [hg]; exact (below_size (by repeat (first | (with_reducible first | exact HB.out | apply below_alloc | apply pw_below_drewN | apply below_drew1 | refine below_set ?_ GE592.out | refine below_set ?_ GE600.out) | exact HB.out))) : w.heap.size ≤ gb619)); have n9_ := Aside0.mk ((by rw [hg]; exact (below_size (by repeat (first | (with_reducible first | exact HB.out | apply below_alloc | apply pw_below_drewN | apply below_drew1 | refine below_set ?_ GE592.out | refine below_set ?_ GE600.out) | exact HB.out))) : w.heap.size ≤ gb619)); have n10_ := Aside0.mk ((by rw [hg]; exact Nat.ne_of_lt (blk_lt (g := gb592) (o := .cells #[.slice Ao12 t588.length co12] 40 (0, 0)) (zk BK592.out)) : gb592 ≠ gb619)); have n11_ := Aside0.mk ((by rw [hg]; exact Nat.ne_of_gt (blk_lt (g := gb592) (o := .cells #[.slice Ao12 t588.length co12] 40 (0, 0)) (zk BK592.out)) : gb619 ≠ gb592)); have n12_ := Aside0.mk ((by rw [hg]; exact Nat.ne_of_lt (blk_lt (g := gb600) (o := .cells #[.slice Ao18 t596.length co18] 40 (0, 0)) (zk BK600.out)) : gb600 ≠ gb619)); have n13_ := Aside0.mk ((by rw [hg]; exact Nat.ne_of_gt (blk_lt (g := gb600) (o := .cells #[.slice Ao18 t596.length co18] 40 (0, 0)) (zk BK600.out)) : gb619 ≠ gb600)); clear HO_593000; clear HO_601000; clear HO614; clear HO617; clear BK592; clear BK600; clear HB; have HO_593000 := n0_; have HO_601000 := n1_; have HO614 := n2_; have HO617 := n3_; have BK592 := n4_; have BK600 := n5_; have HB := n6_; have BK619 := n7_; have GW619 := n8_; have GE619 := n9_; have NB592_619 := n10_; have NB619_592 := n11_; have NB600_619 := n12_; have NB619_600 := n13_; clear n0_ n1_ n2_ n3_ n4_ n5_ n6_ n7_ n8_ n9_ n10_ n11_ n12_ n13_; clear hb hbox hg; obtain ⟨Ao70, co70, eo70⟩ := Kd.R_slice HO617.out; subst eo70; have hnb71 := NB619_592.out; have hnc71 := NB592_619.out; have hnb72 := NB619_600.out; have hnc72 := NB600_619.out; have hcz73_0 : w69.cell? ⟨gb619, 0, none⟩ = some (.slice none 0 0) := (blk_cell BK619.out 0).trans rfl; have hfz73_0 := blk_frozen BK619.out 0))
           (try simp only [Act.put, List.setIfInBounds_toArray, List.set_cons_zero, List.set_cons_succ])
           go_cut [84] (fun v84 wc => ∃ (kq : Nat) (x84_64 : Bool), v84 = .bool x84_64 ∧ Aside0 (laws_FnExactFromApery.j2 kq t609 x84_64 t610 = some r) ∧ Aside0 (kq ≤ kj38) ∧ Aside0 (Kd.R (Kd.int .i64) 3 wc w.heap.size (fun k_ => some k_ ≠ ((.slice Ao18 t596.length co18) : Value).ownBlock ∧ some k_ ≠ ((.slice Ao70 t615.length co70) : Value).ownBlock) (.slice Ao12 t588.length co12) t588) ∧ Aside0 (Kd.R (Kd.int .i64) 3 wc w.heap.size (fun k_ => some k_ ≠ ((.slice Ao12 t588.length co12) : Value).ownBlock ∧ some k_ ≠ ((.slice Ao70 t615.length co70) : Value).ownBlock) (.slice Ao18 t596.length co18) t610) ∧ Aside0 (Kd.R (Kd.int .i64) 3 wc w.heap.size (fun k_ => some k_ ≠ ((.slice Ao12 t588.length co12) : Value).ownBlock ∧ some k_ ≠ ((.slice Ao18 t596.length co18) : Value).ownBlock) (.slice Ao70 t615.length co70) t615) ∧ Aside0 (wc.heap[gb592]? = some (.cells #[(.slice Ao12 t588.length co12)] 40 (0, 0))) ∧ Aside0 (wc.heap[gb600]? = some (.cells #[(.slice Ao18 t596.length co18)] 40 (0, 0))) ∧ Aside0 (wc.heap[gb619]? = some (.cells #[(.slice Ao70 t615.length co70)] 40 (0, 0))) ∧ Aside0 (Below w.heap.size w wc))
           case first =>
            have H := HC65.out
            clear HC65
            obtain ⟨t620, A74, H⟩ := zb H
            by_cases c75 : t620 = true
            ·subst c75
             rw [zT] at H
             have H' := Aside0.mk H
             clear H
             have hnb76 := NB619_592.out
             have hnc76 := NB592_619.out
             have hnb77 := NB619_600.out
             have hnc77 := NB600_619.out
             have hcz78_0 : w69.cell? ⟨gb619, 0, none⟩ = some (.slice none 0 0) := (blk_cell BK619.out 0).trans rfl
             have hfz78_0 := blk_frozen BK619.out 0
             have hnb79 := NB592_600.out
             have hnc79 := NB600_592.out
             have hcz80_0 : w69.cell? ⟨gb592, 0, none⟩ = some (.slice Ao12 t588.length co12) := (blk_cell BK592.out 0).trans rfl
             have hfz80_0 := blk_frozen BK592.out 0
             go_wp2_with (first | ((with_reducible refine gate_callee (f := 58) rfl ?_); refine goesL_ (some 78) rfl rfl Try.func58 (by kernel_rfl) rfl #[.agg #[.slice Ao70 t615.length co70], .agg #[.slice Ao12 t588.length co12]] rfl (by (try simp only [za, zc, zn]); first | done | rfl | (simp only [List.length_drop, List.length_take]; rfl)) ?_; (with_reducible refine (laws_eqSemigroup.calls kj38 _ _ t615 _ _ t588 true _ ?side1 ?side2 ?side3 ?side4 A74.out).mono ?_); (case side1 => refine (Kd.R_reads' (e := 3) (base := w.heap.size) (ok := fun k_ => (((True ∧ some k_ ≠ (.slice Ao12 t588.length co12 : Value).ownBlock) ∧ some k_ ≠ (.slice Ao18 t596.length co18 : Value).ownBlock) ∧ some k_ ≠ (.slice Ao67 t612.length co67 : Value).ownBlock)) (n := t615.length) (c := co70) ?_).2.2; exact (zR ((Kd.R_mono (Kd.R_far (p := ⟨gb619, 0, none⟩) (Kd.R_types HO617.out BK619.out (by decide)) (fun _ hk => hk.2) (.slice Ao70 t615.length co70)) (fun _ h_ => h_.1))))); (case side2 => exact (Kd.R_reads' HO617.out).2.1); (case side3 => refine (Kd.R_reads' (e := 3) (base := w.heap.size) (ok := fun k_ => ((some k_ ≠ (.slice Ao18 t596.length co18 : Value).ownBlock ∧ some k_ ≠ (.slice Ao67 t612.length co67 : Value).ownBlock) ∧ some k_ ≠ (.slice Ao70 t615.length co70 : Value).ownBlock)) (n := t588.length) (c := co12) ?_).2.2; exact (zR ((Kd.R_mono (Kd.R_far (p := ⟨gb619, 0, none⟩) (Kd.R_types HO_593000.out BK619.out (by decide)) (fun _ hk => hk.2) (.slice Ao70 t615.length co70)) (fun _ h_ => h_.1))))); (case side4 => exact (Kd.R_reads' HO_593000.out).2.1); rintro e w81 ⟨rfl, hb⟩; refine ⟨_, rfl, ?_⟩; have n0_ := Aside0.mk (Kd.R_below (zR ((Kd.R_mono (Kd.R_far (p := ⟨gb619, 0, none⟩) (Kd.R_types HO_593000.out BK619.out (by decide)) (fun _ hk => hk.2) (.slice Ao70 t615.length co70)) (fun _ h_ => h_.1)))) hb); have n1_ := Aside0.mk (Kd.R_below (zR ((Kd.R_mono (Kd.R_far (p := ⟨gb619, 0, none⟩) (Kd.R_types HO_601000.out BK619.out (by decide)) (fun _ hk => hk.2) (.slice Ao70 t615.length co70)) (fun _ h_ => h_.1)))) hb); have n2_ := Aside0.mk (Kd.R_below (zR ((Kd.R_mono (Kd.R_far (p := ⟨gb619, 0, none⟩) (Kd.R_types HO614.out BK619.out (by decide)) (fun _ hk => hk.2) (.slice Ao70 t615.length co70)) (fun _ h_ => h_.1)))) hb); have n3_ := Aside0.mk (Kd.R_below (zR ((Kd.R_mono (Kd.R_far (p := ⟨gb619, 0, none⟩) (Kd.R_types HO617.out BK619.out (by decide)) (fun _ hk => hk.2) (.slice Ao70 t615.length co70)) (fun _ h_ => h_.1)))) hb); have n4_ := Aside0.mk (blk_below (g := gb592) (o := .cells #[.slice Ao12 t588.length co12] 40 (0, 0)) (by (with_reducible repeat (first | refine blk_drewN ?_ _ | refine blk_drew ?_ | refine blk_alloc ?_ _)); refine blk_far ?_ NB592_619.out _; (with_reducible repeat (first | refine blk_drewN ?_ _ | refine blk_drew ?_ | refine blk_alloc ?_ _)); exact BK592.out) hb); have n5_ := Aside0.mk (blk_below (g := gb600) (o := .cells #[.slice Ao18 t596.length co18] 40 (0, 0)) (by (with_reducible repeat (first | refine blk_drewN ?_ _ | refine blk_drew ?_ | refine blk_alloc ?_ _)); refine blk_far ?_ NB600_619.out _; (with_reducible repeat (first | refine blk_drewN ?_ _ | refine blk_drew ?_ | refine blk_alloc ?_ _)); exact BK600.out) hb); have n6_ := Aside0.mk (blk_below (g := gb619) (o := .cells #[.slice Ao70 t615.length co70] 40 (0, 0)) (by (with_reducible repeat (first | refine blk_drewN ?_ _ | refine blk_drew ?_ | refine blk_alloc ?_ _)); refine blk_put (cs := #[.slice none 0 0]) ?_ 0 _ rfl; (with_reducible repeat (first | refine blk_drewN ?_ _ | refine blk_drew ?_ | refine blk_alloc ?_ _)); exact BK619.out) hb); have n7_ := Aside0.mk (below_step (by repeat (first | (with_reducible first | exact HB.out | apply below_alloc | apply pw_below_drewN | apply below_drew1 | refine below_set ?_ GE592.out | refine below_set ?_ GE600.out | refine below_set ?_ GE619.out) | exact HB.out)) hb); clear HO_593000; clear HO_601000; clear HO614; clear HO617; clear BK592; clear BK600; clear BK619; clear HB; have HO_593000 := n0_; have HO_601000 := n1_; have HO614 := n2_; have HO617 := n3_; have BK592 := n4_; have BK600 := n5_; have BK619 := n6_; have HB := n7_; clear n0_ n1_ n2_ n3_ n4_ n5_ n6_ n7_; (try clear hb); (try clear hb2); (try clear hk); (try clear hi)))
             go_meet
             case rel => exact ⟨_, ((t618 != t591)), (by first | rfl | (simp; done) | (simp [*]; done)), H', ⟨by have := HJ6.out; have := HJ38.out; first | omega | exact Nat.le_refl _⟩, ⟨zR (Kd.R_mono HO_593000.out (fun _ hk => by first | exact ⟨hk.1.1, hk.2⟩ | (revert hk; simp +contextual)))⟩, ⟨zR (Kd.R_mono HO_601000.out (fun _ hk => by first | exact ⟨hk.1.1, hk.2⟩ | (revert hk; simp +contextual)))⟩, ⟨zR (Kd.R_mono HO617.out (fun _ hk => by first | exact ⟨hk.1.1.2, hk.1.2⟩ | (revert hk; simp +contextual)))⟩, ⟨zk BK592.out⟩, ⟨zk BK600.out⟩, ⟨zk BK619.out⟩, ⟨by repeat (first | (with_reducible first | exact HB.out | apply below_alloc | apply pw_below_drewN | apply below_drew1 | refine below_set ?_ GE592.out | refine below_set ?_ GE600.out | refine below_set ?_ GE619.out) | exact HB.out)⟩⟩
            ·replace c75 := Bool.eq_false_iff.mpr c75
             subst c75
             rw [zF] at H
             have H' := Aside0.mk H
             clear H
             have hnb82 := NB619_592.out
             have hnc82 := NB592_619.out
             have hnb83 := NB619_600.out
             have hnc83 := NB600_619.out
             have hcz84_0 : w69.cell? ⟨gb619, 0, none⟩ = some (.slice none 0 0) := (blk_cell BK619.out 0).trans rfl
             have hfz84_0 := blk_frozen BK619.out 0
             have hnb85 := NB592_600.out
             have hnc85 := NB600_592.out
             have hcz86_0 : w69.cell? ⟨gb592, 0, none⟩ = some (.slice Ao12 t588.length co12) := (blk_cell BK592.out 0).trans rfl
             have hfz86_0 := blk_frozen BK592.out 0
             go_wp2_with (first | ((with_reducible refine gate_callee (f := 58) rfl ?_); refine goesL_ (some 78) rfl rfl Try.func58 (by kernel_rfl) rfl #[.agg #[.slice Ao70 t615.length co70], .agg #[.slice Ao12 t588.length co12]] rfl (by (try simp only [za, zc, zn]); first | done | rfl | (simp only [List.length_drop, List.length_take]; rfl)) ?_; (with_reducible refine (laws_eqSemigroup.calls kj38 _ _ t615 _ _ t588 false _ ?side1 ?side2 ?side3 ?side4 A74.out).mono ?_); (case side1 => refine (Kd.R_reads' (e := 3) (base := w.heap.size) (ok := fun k_ => (((True ∧ some k_ ≠ (.slice Ao12 t588.length co12 : Value).ownBlock) ∧ some k_ ≠ (.slice Ao18 t596.length co18 : Value).ownBlock) ∧ some k_ ≠ (.slice Ao67 t612.length co67 : Value).ownBlock)) (n := t615.length) (c := co70) ?_).2.2; exact (zR ((Kd.R_mono (Kd.R_far (p := ⟨gb619, 0, none⟩) (Kd.R_types HO617.out BK619.out (by decide)) (fun _ hk => hk.2) (.slice Ao70 t615.length co70)) (fun _ h_ => h_.1))))); (case side2 => exact (Kd.R_reads' HO617.out).2.1); (case side3 => refine (Kd.R_reads' (e := 3) (base := w.heap.size) (ok := fun k_ => ((some k_ ≠ (.slice Ao18 t596.length co18 : Value).ownBlock ∧ some k_ ≠ (.slice Ao67 t612.length co67 : Value).ownBlock) ∧ some k_ ≠ (.slice Ao70 t615.length co70 : Value).ownBlock)) (n := t588.length) (c := co12) ?_).2.2; exact (zR ((Kd.R_mono (Kd.R_far (p := ⟨gb619, 0, none⟩) (Kd.R_types HO_593000.out BK619.out (by decide)) (fun _ hk => hk.2) (.slice Ao70 t615.length co70)) (fun _ h_ => h_.1))))); (case side4 => exact (Kd.R_reads' HO_593000.out).2.1); rintro e w87 ⟨rfl, hb⟩; refine ⟨_, rfl, ?_⟩; have n0_ := Aside0.mk (Kd.R_below (zR ((Kd.R_mono (Kd.R_far (p := ⟨gb619, 0, none⟩) (Kd.R_types HO_593000.out BK619.out (by decide)) (fun _ hk => hk.2) (.slice Ao70 t615.length co70)) (fun _ h_ => h_.1)))) hb); have n1_ := Aside0.mk (Kd.R_below (zR ((Kd.R_mono (Kd.R_far (p := ⟨gb619, 0, none⟩) (Kd.R_types HO_601000.out BK619.out (by decide)) (fun _ hk => hk.2) (.slice Ao70 t615.length co70)) (fun _ h_ => h_.1)))) hb); have n2_ := Aside0.mk (Kd.R_below (zR ((Kd.R_mono (Kd.R_far (p := ⟨gb619, 0, none⟩) (Kd.R_types HO614.out BK619.out (by decide)) (fun _ hk => hk.2) (.slice Ao70 t615.length co70)) (fun _ h_ => h_.1)))) hb); have n3_ := Aside0.mk (Kd.R_below (zR ((Kd.R_mono (Kd.R_far (p := ⟨gb619, 0, none⟩) (Kd.R_types HO617.out BK619.out (by decide)) (fun _ hk => hk.2) (.slice Ao70 t615.length co70)) (fun _ h_ => h_.1)))) hb); have n4_ := Aside0.mk (blk_below (g := gb592) (o := .cells #[.slice Ao12 t588.length co12] 40 (0, 0)) (by (with_reducible repeat (first | refine blk_drewN ?_ _ | refine blk_drew ?_ | refine blk_alloc ?_ _)); refine blk_far ?_ NB592_619.out _; (with_reducible repeat (first | refine blk_drewN ?_ _ | refine blk_drew ?_ | refine blk_alloc ?_ _)); exact BK592.out) hb); have n5_ := Aside0.mk (blk_below (g := gb600) (o := .cells #[.slice Ao18 t596.length co18] 40 (0, 0)) (by (with_reducible repeat (first | refine blk_drewN ?_ _ | refine blk_drew ?_ | refine blk_alloc ?_ _)); refine blk_far ?_ NB600_619.out _; (with_reducible repeat (first | refine blk_drewN ?_ _ | refine blk_drew ?_ | refine blk_alloc ?_ _)); exact BK600.out) hb); have n6_ := Aside0.mk (blk_below (g := gb619) (o := .cells #[.slice Ao70 t615.length co70] 40 (0, 0)) (by (with_reducible repeat (first | refine blk_drewN ?_ _ | refine blk_drew ?_ | refine blk_alloc ?_ _)); refine blk_put (cs := #[.slice none 0 0]) ?_ 0 _ rfl; (with_reducible repeat (first | refine blk_drewN ?_ _ | refine blk_drew ?_ | refine blk_alloc ?_ _)); exact BK619.out) hb); have n7_ := Aside0.mk (below_step (by repeat (first | (with_reducible first | exact HB.out | apply below_alloc | apply pw_below_drewN | apply below_drew1 | refine below_set ?_ GE592.out | refine below_set ?_ GE600.out | refine below_set ?_ GE619.out) | exact HB.out)) hb); clear HO_593000; clear HO_601000; clear HO614; clear HO617; clear BK592; clear BK600; clear BK619; clear HB; have HO_593000 := n0_; have HO_601000 := n1_; have HO614 := n2_; have HO617 := n3_; have BK592 := n4_; have BK600 := n5_; have BK619 := n6_; have HB := n7_; clear n0_ n1_ n2_ n3_ n4_ n5_ n6_ n7_; (try clear hb); (try clear hb2); (try clear hk); (try clear hi)))
             go_meet
             case rel => exact ⟨_, (true), (by first | rfl | (simp; done) | (simp [*]; done)), H', ⟨by have := HJ6.out; have := HJ38.out; first | omega | exact Nat.le_refl _⟩, ⟨zR (Kd.R_mono HO_593000.out (fun _ hk => by first | exact ⟨hk.1.1, hk.2⟩ | (revert hk; simp +contextual)))⟩, ⟨zR (Kd.R_mono HO_601000.out (fun _ hk => by first | exact ⟨hk.1.1, hk.2⟩ | (revert hk; simp +contextual)))⟩, ⟨zR (Kd.R_mono HO617.out (fun _ hk => by first | exact ⟨hk.1.1.2, hk.1.2⟩ | (revert hk; simp +contextual)))⟩, ⟨zk BK592.out⟩, ⟨zk BK600.out⟩, ⟨zk BK619.out⟩, ⟨by repeat (first | (with_reducible first | exact HB.out | apply below_alloc | apply pw_below_drewN | apply below_drew1 | refine below_set ?_ GE592.out | refine below_set ?_ GE600.out | refine below_set ?_ GE619.out) | exact HB.out)⟩⟩
           case rest =>
            clear HC65
            try clear c1
            try clear c2
            try clear c2b0
            try clear c2b1
            try clear p2
            try clear c3
            try clear c4
            try clear c5
            try clear c6
            try clear c7
            try clear c8
            try clear c13
            try clear c19
            try clear c22
            try clear c23
            try clear c27
            try clear c29
            try clear c30
            try clear c31
            try clear c37
            try clear c41
            try clear c41b0
            try clear c43
            try clear c44
            try clear c48
            try clear c52
            try clear c56
            try clear c58
            try clear c59
            try clear c60
            try clear c61
            try clear c61b0
            try clear c62
            try clear c62b0
            try clear c62b1
            try clear c71
            try clear c72
            try clear c75
            try clear c76
            try clear c77
            try clear c79
            try clear c82
            try clear c83
            try clear c85
            try clear c86
            try clear hcz13_0
            try clear hcz20_0
            try clear hcz24_0
            try clear hcz25_0
            try clear hcz28_0
            try clear hcz29_0
            try clear hcz45_0
            try clear hcz46_0
            try clear hcz49_0
            try clear hcz50_0
            try clear hcz57_0
            try clear hcz59_0
            try clear hcz73_0
            try clear hcz78_0
            try clear hcz80_0
            try clear hcz84_0
            try clear hcz86_0
            try clear hfz13_0
            try clear hfz20_0
            try clear hfz24_0
            try clear hfz25_0
            try clear hfz28_0
            try clear hfz29_0
            try clear hfz45_0
            try clear hfz46_0
            try clear hfz49_0
            try clear hfz50_0
            try clear hfz57_0
            try clear hfz59_0
            try clear hfz73_0
            try clear hfz78_0
            try clear hfz80_0
            try clear hfz84_0
            try clear hfz86_0
            try clear p2
            obtain ⟨kq, x84_64, rfl, HA, HJ64, HO_593000, HO_601000, HO_620000, BK592, BK600, BK619, HB⟩ := hcut
            have hl601000_64 := (Kd.R_reads' HO_601000.out).1
            rw [hl601000_64] at HO_601000
            (try simp only [hl601000_64])
            (try simp only [hl601000_64] at BK592)
            (try simp only [hl601000_64] at BK600)
            (try simp only [hl601000_64] at BK619)
            (try simp only [hl601000_64] at HO_593000)
            (try simp only [hl601000_64] at HO_620000)
            cases kq with
            | zero => exact absurd HA.out (by simp [laws_FnExactFromApery.j2])
            | succ kj64 =>
             have H := HA.out
             clear HA
             simp only [laws_FnExactFromApery.j2] at H
             by_cases c88 : x84_64 = true
             ·subst c88
              rw [zT] at H
              obtain rfl := Option.some.inj H
              go_wp2
              go_ret
              exact ⟨by first | rfl | (simp [errW_none, errW_some] <;> rfl) | (simp [*, errW_none, errW_some] <;> rfl), by repeat (first | (with_reducible first | exact HB.out | apply below_alloc | apply pw_below_drewN | apply below_drew1 | refine below_set ?_ GE592.out | refine below_set ?_ GE600.out | refine below_set ?_ GE619.out) | exact HB.out)⟩
             ·replace c88 := Bool.eq_false_iff.mpr c88
              subst c88
              rw [zF] at H
              obtain ⟨t621, A89, H⟩ := zb H
              have HU90 := Aside0.mk H
              clear H
              have hnb91 := NB600_592.out
              have hnc91 := NB592_600.out
              have hnb92 := NB600_619.out
              have hnc92 := NB619_600.out
              have hcz93_0 : wc.cell? ⟨gb600, 0, none⟩ = some (.slice Ao18 t610.length co18) := (blk_cell BK600.out 0).trans rfl
              have hfz93_0 := blk_frozen BK600.out 0
              go_upto_if 89 with (first | ((with_reducible refine gate_callee (f := 60) rfl ?_); refine goesL_ (some 87) rfl rfl Try.func60 (by kernel_rfl) rfl #[.agg #[.slice Ao18 t610.length co18], .int .i64 1] rfl (by (try simp only [za, zc, zn]); first | done | rfl | (simp only [List.length_drop, List.length_take]; rfl)) ?_; (with_reducible refine (laws_heldSemigroup.calls kj64 _ _ t610 1 t621 _ ?side1 ?side2 A89.out).mono ?_); (case side1 => repeat (first | exact (Kd.R_reads' HO_601000.out).2.2 | (with_reducible refine Kd.C_alloc ?_ _) | (with_reducible refine Kd.C_drewN ?_ _) | (with_reducible refine Kd.C_drew ?_))); (case side2 => exact (Kd.R_reads' HO_601000.out).2.1); rintro e w94 ⟨rfl, hb⟩; refine ⟨_, rfl, ?_⟩; have n0_ := Aside0.mk (Kd.R_below (zR HO_593000.out) hb); have n1_ := Aside0.mk (Kd.R_below (zR HO_601000.out) hb); have n2_ := Aside0.mk (Kd.R_below (zR HO_620000.out) hb); have n3_ := Aside0.mk (blk_below (g := gb592) (o := .cells #[.slice Ao12 t588.length co12] 40 (0, 0)) (zk BK592.out) hb); have n4_ := Aside0.mk (blk_below (g := gb600) (o := .cells #[.slice Ao18 t610.length co18] 40 (0, 0)) (zk BK600.out) hb); have n5_ := Aside0.mk (blk_below (g := gb619) (o := .cells #[.slice Ao70 t615.length co70] 40 (0, 0)) (zk BK619.out) hb); have n6_ := Aside0.mk (below_step (by repeat (first | (with_reducible first | exact HB.out | apply below_alloc | apply pw_below_drewN | apply below_drew1 | refine below_set ?_ GE592.out | refine below_set ?_ GE600.out | refine below_set ?_ GE619.out) | exact HB.out)) hb); clear HO_593000; clear HO_601000; clear HO_620000; clear BK592; clear BK600; clear BK619; clear HB; have HO_593000 := n0_; have HO_601000 := n1_; have HO_620000 := n2_; have BK592 := n3_; have BK600 := n4_; have BK619 := n5_; have HB := n6_; clear n0_ n1_ n2_ n3_ n4_ n5_ n6_; (try clear hb); (try clear hb2); (try clear hk); (try clear hi)))
              (try simp only [Act.put, List.setIfInBounds_toArray, List.set_cons_zero, List.set_cons_succ])
              have H := HU90.out
              clear HU90
              by_cases c95 : t621 < 0
              ·rw [if_pos c95] at H
               have c95b0 : decide (t621 < 0) = true := decide_eq_true c95
               clear c95
               (first | rw [c95b0] | rw [c95b1] | (simp only [i64_w, i32_w]; rw [c95b0]) | skip)
               obtain rfl := Option.some.inj H
               go_wp2
               go_ret
               exact ⟨by first | rfl | (simp [errW_none, errW_some] <;> rfl) | (simp [*, errW_none, errW_some] <;> rfl), by repeat (first | (with_reducible first | exact HB.out | apply below_alloc | apply pw_below_drewN | apply below_drew1 | refine below_set ?_ GE592.out | refine below_set ?_ GE600.out | refine below_set ?_ GE619.out) | exact HB.out)⟩
              ·rw [if_neg c95] at H
               have c95b0 : decide (t621 < 0) = false := decide_eq_false c95
               clear c95
               (first | rw [c95b0] | rw [c95b1] | (simp only [i64_w, i32_w]; rw [c95b0]) | skip)
               by_cases c96 : t621 = t609
               ·rw [if_pos c96] at H
                have c96b0 : (t621 == t609) = true := beq_iff_eq.mpr c96
                have c96b1 : (t621 != t609) = false := bne_eq_false_iff_eq.mpr c96
                clear c96
                obtain rfl := Option.some.inj H
                go_wp2
                go_ret
                exact ⟨by first | rfl | (simp [errW_none, errW_some] <;> rfl) | (simp [*, errW_none, errW_some] <;> rfl), by repeat (first | (with_reducible first | exact HB.out | apply below_alloc | apply pw_below_drewN | apply below_drew1 | refine below_set ?_ GE592.out | refine below_set ?_ GE600.out | refine below_set ?_ GE619.out) | exact HB.out)⟩
               ·rw [if_neg c96] at H
                have c96b0 : (t621 == t609) = false := beq_eq_false_iff_ne.mpr c96
                have c96b1 : (t621 != t609) = true := bne_iff_ne.mpr c96
                obtain rfl := Option.some.inj H
                go_wp2
                go_ret
                exact ⟨by first | rfl | (simp [errW_none, errW_some] <;> rfl) | (simp [*, errW_none, errW_some] <;> rfl), by repeat (first | (with_reducible first | exact HB.out | apply below_alloc | apply pw_below_drewN | apply below_drew1 | refine below_set ?_ GE592.out | refine below_set ?_ GE600.out | refine below_set ?_ GE619.out) | exact HB.out)⟩
          ·rw [if_neg c62] at H
           have c62b0 : (t611 == t609) = false := beq_eq_false_iff_ne.mpr c62
           have c62b1 : (t611 != t609) = true := bne_iff_ne.mpr c62
           obtain rfl := Option.some.inj H
           go_wp2
           go_ret
           exact ⟨by first | rfl | (simp [errW_none, errW_some] <;> rfl) | (simp [*, errW_none, errW_some] <;> rfl), by repeat (first | (with_reducible first | exact HB.out | apply below_alloc | apply pw_below_drewN | apply below_drew1 | refine below_set ?_ GE592.out | refine below_set ?_ GE600.out) | exact HB.out)⟩
     ·replace c37 := Bool.eq_false_iff.mpr c37
      subst c37
      rw [zF] at H
      obtain rfl := Option.some.inj H
      go_wp2
      go_ret
      exact ⟨by first | rfl | (simp [errW_none, errW_some] <;> rfl) | (simp [*, errW_none, errW_some] <;> rfl), by repeat (first | (with_reducible first | exact HB.out | apply below_alloc | apply pw_below_drewN | apply below_drew1 | refine below_set ?_ GE592.out | refine below_set ?_ GE600.out) | exact HB.out)⟩

/-- THE ONE PURE STATEMENT of laws_FnExactFromApery: yours. -/
def laws_FnExactFromApery.Pure : Prop := ∀ (l0 : List Int), l0.length ≤ maxLen → l0.length * 8 ≤ 140737488351232 → (∀ x ∈ l0, (Lit.int .i64 x).wf = true) → ∃ k, laws_FnExactFromApery.f k l0 = some true
theorem laws_FnExactFromApery.walk (P : laws_FnExactFromApery.Pure) (a0 : Option Addr) (len0 cap0 : Nat) (z0 : List Int) (w : World) (w0 : (a0 = none ∧ len0 = 0 ∧ cap0 = 0 ∧ z0 = []) ∨ ∃ x, a0 = some x ∧ len0 ≤ cap0 ∧ cap0 ≤ maxLen ∧ z0.length = cap0 ∧ (∀ i, i < z0.length → w.cell? (x.add i) = some (.int .i64 (z0.getD i 0))) ∧ ∀ n ∈ z0, (Lit.int .i64 n).wf = true) (y0 : len0 * 8 ≤ 140737488351232) :
  Calls Try.prog 13 #[.slice a0 len0 cap0] w fun e w' => e = .returned (.bool true) ∧ Below w.heap.size w w' := by
 obtain ⟨l0, rfl, hr0, hm0, hw0, hc0⟩ := ReadsInt.ofRowC w0
 obtain ⟨k, h⟩ := P l0 hm0 y0 hw0
 refine (laws_FnExactFromApery.calls k _ _ l0 true w (Kd.C_of_reads (d := (0 : Int)) (h1 := fun _ => rfl) hr0) hc0 h).mono ?_
 rintro e w' ⟨rfl, hd⟩
 exact ⟨rfl, hd⟩

end Go.Proofs.Ytbagfnppeidonaa.PFnExactFromApery
