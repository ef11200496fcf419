-- Written by a program of this session (a turned copy of the kit's print; see NOTES.md).
import Derived.Test.YthednemidaegkaaPFnAperyx0
import Derived.Test.YthednemidaegkaaPFnAperyx28
namespace Go.Proofs.Ythednemidaegkaa.PFnApery
open Go.RowKit Go.Proofs.YthednemidaegkaaW.PrintWords Go.Proofs.YthednemidaegkaaW.PrintLast Go.Proofs.YthednemidaegkaaW.PrintMore
attribute [local go_sem] max2_int min2_int max_two min_two max_three min_three max_four min_four   -- for this text's walks alone
set_option linter.unusedVariables false
set_option linter.unusedSimpArgs false

/-! ### laws_FnApery: function 3 -/
mutual
def laws_FnApery.j0 : Nat → Int → List Int → Bool → List Int → Option (Bool)
 | 0, _, _, _, _ => none
 | k + 1, x4, x5, x64, x851000 => if x64 = true then (some false) else (laws_FnApery.l0 k x4 x5 0 x851000)
def laws_FnApery.l0 : Nat → Int → List Int → Int → List Int → Option (Bool)
 | 0, _, _, _, _ => none
 | k + 1, x4, x5, x11, x851000 => if x11 < (x5.length : Int) then (if 0 ≤ x11 then (if x4 = 0 then (none) else (if (Int.tmod (rd x5 x11) x4) = x11 then ((spec_Contains.f k x851000 (rd x5 x11)).bind fun t878 => (if t878 = true then (if (rd x5 x11) ≥ x4 then ((spec_Contains.f k x851000 (wrap64 ((rd x5 x11) - x4))).bind fun t881 => (if t881 = true then (some false) else (laws_FnApery.l0 k x4 x5 (wrap64 (x11 + 1)) x851000))) else (laws_FnApery.l0 k x4 x5 (wrap64 (x11 + 1)) x851000)) else (some false))) else (some false))) else (none)) else (if (x5.length : Int) = 0 then ((impl_FrobeniusByApery.f k x851000 x4).bind fun t882 => (if t882 = (-1) then ((impl_GenusByApery.f k x851000 x4).bind fun t883 => (some (t883 == (-1)))) else (some false))) else ((impl_FromApery.f k x5).bind fun bt884 => ((impl_FrobeniusByApery.f k x851000 x4).bind fun t889 => ((spec_FrobeniusOf.f k x851000).bind fun t890 => (if t889 = t890 then ((impl_GenusByApery.f k x851000 x4).bind fun t891 => ((spec_GenusOf.f k x851000).bind fun t892 => (if t891 = t892 then (if bt884.2 = true then ((spec_EqualSemigroup.f k bt884.1 x851000).bind fun t893 => (some t893)) else (some false)) else (some false)))) else (some false))))))
end
def laws_FnApery.f (k : Nat) (l0 : List Int) : Option (Bool) := (laws_big.f l0).bind fun t845 => (if t845 = true then (some true) else ((spec_DrawAperySet.f k l0).bind fun bt846 => ((impl_AperySet.f k bt846.1 bt846.2).bind fun t851 => ((spec_DrawFromApery.f k l0).bind fun t854 => ((impl_FromApery.f k t854).bind fun bt857 => ((spec_FromApery.f k t854).bind fun bt862 => ((spec_AperySet.f k bt846.1 bt846.2).bind fun t867 => ((laws_sameInts.f k t851 t867).bind fun t870 => (if t870 = true then (if (bt857.2 != bt862.2) = true then (laws_FnApery.j0 k bt846.2 t851 true bt846.1) else ((spec_EqualSemigroup.f k bt857.1 bt862.1).bind fun t871 => (if t871 = true then (if bt857.2 = true then ((impl_AperySet.f k bt857.1 (t854.length : Int)).bind fun t872 => ((laws_sameInts.f k t872 t854).bind fun t875 => (laws_FnApery.j0 k bt846.2 t851 (!t875) bt846.1))) else (laws_FnApery.j0 k bt846.2 t851 false bt846.1)) else (laws_FnApery.j0 k bt846.2 t851 true bt846.1)))) else (laws_FnApery.j0 k bt846.2 t851 true bt846.1))))))))))
def laws_FnApery.T13 : Bool × List (List Nat × List Nat) := (true, [([], []), ([], []), ([0, 1], [0, 1]), ([2], [2]), ([], []), ([3, 4], [3, 4]), ([], []), ([5, 6], [5, 6]), ([7], [7]), ([8], [8]), ([8], [8]), ([8], [8]), ([10, 11, 8], [8, 10, 11]), ([12, 8], [8, 12]), ([9, 13, 8, 8], [8, 9, 13]), ([14, 8], [8, 14]), ([8, 15], [8, 15]), ([16, 14], [16]), ([17], [17]), ([17], [17]), ([18, 19, 17], [17, 18, 19]), ([20, 17], [17, 20]), ([17], [17]), ([21, 22, 17], [17, 21, 22]), ([23, 17, 17], [17, 23]), ([24], [24]), ([24], [24]), ([24], [24]), ([26, 27, 24], [24, 26, 27]), ([28, 24], [24, 28]), ([24], [24]), ([29, 30, 24], [24, 29, 30]), ([25, 31, 24, 24], [24, 25, 31]), ([24, 32, 17], [17, 24, 32]), ([17, 33], [17, 33])])
def laws_FnApery.B13 : List Nat := [0, 0, 3, 7, 0, 31, 0, 127, 255, 511, 511, 511, 3583, 7679, 16383, 32767, 65535, 131071, 262143, 262143, 1048575, 2097151, 262143, 8388607, 16777215, 33554431, 33554431, 33554431, 234881023, 503316479, 33554431, 2113929215, 4294967295, 8589934591, 17179869183]
theorem laws_FnApery.tab13 : rtab .any (opsOf Try.f3 13) = laws_FnApery.T13 := by kernel_rfl
theorem laws_FnApery.bits13 : waitsOk laws_FnApery.T13.2 laws_FnApery.B13 = true := by kernel_rfl
def laws_FnApery.T18 : Bool × List (List Nat × List Nat) := (true, [([], []), ([], []), ([0, 1], [0, 1]), ([], []), ([3, 2], [3]), ([2, 4], [2, 4]), ([5, 4], [5]), ([6], [6]), ([6], [6]), ([7, 8, 6, 6], [6, 7, 8]), ([6], [6]), ([10, 9, 6], [6, 10]), ([9, 11, 6], [6, 9, 11]), ([6, 12], [6, 12]), ([13, 11], [13]), ([14], [14]), ([14, 15], [14, 15]), ([16, 14], [16]), ([17], [17]), ([17], [17]), ([18, 19, 17, 17], [17, 18, 19]), ([17, 20], [17, 20]), ([21, 20, 0, 1, 2, 3, 4, 5, 6, 7, 8, 9, 10, 11, 12, 13, 14, 15, 16, 17, 18, 19, 20, 21], [21])])
def laws_FnApery.B18 : List Nat := [0, 0, 3, 0, 15, 31, 63, 127, 127, 511, 127, 2047, 4095, 8191, 16383, 32767, 65535, 131071, 262143, 262143, 1048575, 2097151, 4194303]
theorem laws_FnApery.tab18 : rtab .any (opsOf Try.f3 18) = laws_FnApery.T18 := by kernel_rfl
theorem laws_FnApery.bits18 : waitsOk laws_FnApery.T18.2 laws_FnApery.B18 = true := by kernel_rfl
theorem laws_FnApery.no_j0 (k : Nat) (y0 : Int) (y1 : List Int) (y3 : List Int) (r : Bool) (h : laws_FnApery.j0 k y0 y1 true y3 = some r) : r = false := by
 cases k with
 | zero => simp [laws_FnApery.j0] at h
 | succ k => rw [laws_FnApery.j0, if_pos rfl] at h; exact (Option.some.inj h).symm
set_option maxHeartbeats 8000000 in
set_option maxRecDepth 100000 in
theorem laws_FnApery.calls (k : Nat) (A0 : Option Addr) (c0 : Nat) (l0 : List Int) (r : Bool) (w : World) (hr0 : Kd.C (Kd.int .u8) w A0 l0.length l0) (hc0 : l0.length ≤ c0) (h : laws_FnApery.f k l0 = some r) (hr : r = true) :
  Calls Try.prog 3 #[.slice A0 l0.length c0] w fun e w' => e = .returned (.bool r) ∧ Below w.heap.size w w' := by
 have HRT := Aside0.mk hr; clear hr; have hu26 := Try.underlying26; have HR0 := Aside0.mk hr0; have HC0 := Aside0.mk hc0; clear hr0 hc0; have HB := Aside0.mk (Below.refl w.heap.size w); have H : ((laws_big.f l0).bind fun t845 => (if t845 = true then (some true) else ((spec_DrawAperySet.f k l0).bind fun bt846 => ((impl_AperySet.f k bt846.1 bt846.2).bind fun t851 => ((spec_DrawFromApery.f k l0).bind fun t854 => ((impl_FromApery.f k t854).bind fun bt857 => ((spec_FromApery.f k t854).bind fun bt862 => ((spec_AperySet.f k bt846.1 bt846.2).bind fun t867 => ((laws_sameInts.f k t851 t867).bind fun t870 => (if t870 = true then (if (bt857.2 != bt862.2) = true then (laws_FnApery.j0 k bt846.2 t851 true bt846.1) else ((spec_EqualSemigroup.f k bt857.1 bt862.1).bind fun t871 => (if t871 = true then (if bt857.2 = true then ((impl_AperySet.f k bt857.1 (t854.length : Int)).bind fun t872 => ((laws_sameInts.f k t872 t854).bind fun t875 => (laws_FnApery.j0 k bt846.2 t851 (!t875) bt846.1))) else (laws_FnApery.j0 k bt846.2 t851 false bt846.1)) else (laws_FnApery.j0 k bt846.2 t851 true bt846.1)))) else (laws_FnApery.j0 k bt846.2 t851 true bt846.1))))))))))) = some r := h; clear h; obtain ⟨t845, A2, H⟩ := zb H; have HU3 := Aside0.mk H; clear H; go_enter Try.func3, Try.ntmps3; go_upto_if 15 with (first | ((with_reducible refine gate_callee (f := 5) rfl ?_); refine goesL_ (some 15) rfl rfl Try.func5 (by kernel_rfl) rfl #[.slice A0 l0.length c0] rfl (by (try simp only [za, zc, zn]); first | done | rfl) ?_; (with_reducible refine (laws_big.calls _ _ l0 t845 _ ?side1 ?side2 A2.out).mono ?_); (case side1 => repeat (first | exact HR0.out | (with_reducible refine Kd.C_alloc ?_ _) | (with_reducible refine Kd.C_drewN ?_ _) | (with_reducible refine Kd.C_drew ?_))); (case side2 => exact HC0.out); rintro e w' ⟨rfl, ⟨nd, rfl⟩⟩; refine ⟨_, rfl, ?_⟩))
 (try simp only [Act.put, List.setIfInBounds_toArray, List.set_cons_zero, List.set_cons_succ]); have H := HU3.out; clear HU3
 by_cases c4 : t845 = true
 ·subst c4; rw [zT] at H; obtain rfl := Option.some.inj H; go_wp2; go_ret
  exact ⟨by first | rfl | (simp [*, errW_none, errW_some] <;> rfl), zB HB.out⟩
 ·replace c4 := Bool.eq_false_iff.mpr c4; subst c4; rw [zF] at H; obtain ⟨⟨t846, t849⟩, A5, H⟩ := zb H; (try dsimp only at H); obtain ⟨t851, A6, H⟩ := zb H; obtain ⟨t854, A7, H⟩ := zb H; obtain ⟨⟨t857, t860⟩, A8, H⟩ := zb H; (try dsimp only at H); obtain ⟨⟨t862, t865⟩, A9, H⟩ := zb H; (try dsimp only at H); have HC10 := Aside0.mk H; clear H; go_upto_region 8 with (first | ((with_reducible refine gate_callee (f := 6) rfl ?_); refine goesL_ (some 18) rfl rfl Try.func6 (by kernel_rfl) rfl #[.slice A0 l0.length c0] rfl (by (try simp only [za, zc, zn]); first | done | rfl) ?_; (with_reducible refine (spec_DrawAperySet.calls k _ _ l0 t846 t849 _ ?side1 ?side2 A5.out).mono ?_); (case side1 => exact zC (Kd.C_below HR0.out HB.out)); (case side2 => exact HC0.out); rintro e w11 ⟨v847, rfl, ho0, hb⟩; refine ⟨_, rfl, ?_⟩; have HO848 := Aside0.mk (Kd.Q_lower ho0 (zS HB.out)); replace HB := Aside0.mk (below_step (zB HB.out) hb); (try clear hb); (try clear hb2); (try clear hk); (try clear hi); (try clear ho0)) | ((with_reducible refine gate_dst (N := 3) rfl ?_); refine box_event ?hg (N := 3) ?hd (cs := #[.slice none 0 0]) (t := 26) ?hr ?_; (case hd => rfl); (case hg => rfl); (case hr => first | (go_simp; done) | (go_simp; rfl)); intro gb850 hg w12 hbox hb; replace HO848 := Aside0.mk (Kd.Q_below (zQ HO848.out) hb); have BK850 := Aside0.mk (hbox); have GW850 := Aside0.mk ((by rw [hg]; exact (zS HB.out) : w.heap.size ≤ gb850)); have GE850 := Aside0.mk ((by rw [hg]; exact (zS HB.out) : w.heap.size ≤ gb850)); replace HB := Aside0.mk (below_step (zB HB.out) hb); have := Ge.mk GE850.out; clear hb hbox hg; obtain ⟨Ao13, co13, eo13, _⟩ := Kd.Q_slice HO848.out; subst eo13; have hcz14_0 : w12.cell? ⟨gb850, 0, none⟩ = some (.slice none 0 0) := (blk_cell BK850.out 0).trans rfl; have hfz14_0 := blk_frozen BK850.out 0) | ((with_reducible refine gate_callee (f := 7) rfl ?_); refine goesL_ (some 23) rfl rfl Try.func7 (by kernel_rfl) rfl #[.agg #[.slice Ao13 t846.length co13], .int .i64 t849] rfl (by (try simp only [za, zc, zn]); first | done | rfl) ?_; (with_reducible refine (impl_AperySet.calls k _ _ t846 t849 t851 _ ?side1 ?side2 A6.out).mono ?_); (case side1 => refine (Kd.Q_reads' (e := 3) (base := w.heap.size) (ok := fun k_ => True) (n := t846.length) (c := co13) ?_).2.2; exact (zQ ((Kd.Q_mono (Kd.Q_far (p := ⟨gb850, 0, none⟩) (Kd.Q_types HO848.out BK850.out (by decide)) (fun _ hk => hk.2) (.slice Ao13 t846.length co13)) (fun _ h_ => h_.1))))); (case side2 => exact (Kd.Q_reads' HO848.out).2.1); rintro e w15 ⟨v852, rfl, ho0, hb⟩; refine ⟨_, rfl, ?_⟩; have HO853 := Aside0.mk (Kd.R_lower (Kd.R_new' ho0 (Kd.Q_lt (zQ ((Kd.Q_mono (Kd.Q_far (p := ⟨gb850, 0, none⟩) (Kd.Q_types HO848.out BK850.out (by decide)) (fun _ hk => hk.2) (.slice Ao13 t846.length co13)) (fun _ h_ => h_.1)))))) (zS HB.out)); replace HO848 := Aside0.mk (Kd.Q_elder' (zQ ((Kd.Q_mono (Kd.Q_far (p := ⟨gb850, 0, none⟩) (Kd.Q_types HO848.out BK850.out (by decide)) (fun _ hk => hk.2) (.slice Ao13 t846.length co13)) (fun _ h_ => h_.1)))) (Kd.R_base ho0) hb); replace BK850 := Aside0.mk (blk_below (g := gb850) (o := .cells #[.slice Ao13 t846.length co13] 26 (0, 0)) (by (with_reducible repeat (first | refine blk_drewN ?_ _ | refine blk_drew ?_ | refine blk_alloc ?_ _)); refine blk_put (cs := #[.slice none 0 0]) ?_ 0 _ rfl; (with_reducible repeat (first | refine blk_drewN ?_ _ | refine blk_drew ?_ | refine blk_alloc ?_ _)); exact BK850.out) hb); replace HB := Aside0.mk (below_step (zB HB.out) hb); (try clear hb); (try clear hb2); (try clear hk); (try clear hi); (try clear ho0)) | ((with_reducible refine gate_callee (f := 8) rfl ?_); refine goesL_ (some 25) rfl rfl Try.func8 (by kernel_rfl) rfl #[.slice A0 l0.length c0] rfl (by (try simp only [za, zc, zn]); first | done | rfl) ?_; (with_reducible refine (spec_DrawFromApery.calls k _ _ l0 t854 _ ?side1 ?side2 A7.out).mono ?_); (case side1 => exact zC (Kd.C_below HR0.out HB.out)); (case side2 => exact HC0.out); rintro e w16 ⟨v855, rfl, ho0, hb⟩; refine ⟨_, rfl, ?_⟩; have HO856 := Aside0.mk (Kd.R_lower (Kd.R_new' (Kd.R_new' ho0 (Kd.Q_lt (zQ HO848.out))) (Kd.R_lt (zR HO853.out))) (zS HB.out)); replace HO848 := Aside0.mk (Kd.Q_elder' (zQ HO848.out) (Kd.R_base ho0) hb); replace HO853 := Aside0.mk (Kd.R_elder' (zR HO853.out) (Kd.R_base ho0) hb); replace BK850 := Aside0.mk (blk_below (zk BK850.out) hb); replace HB := Aside0.mk (below_step (zB HB.out) hb); (try clear hb); (try clear hb2); (try clear hk); (try clear hi); (try clear ho0); obtain ⟨Ao17, co17, eo17⟩ := Kd.R_slice HO856.out; subst eo17) | ((with_reducible refine gate_callee (f := 9) rfl ?_); refine goesL_ (some 28) rfl rfl Try.func9 (by kernel_rfl) rfl #[.slice Ao17 t854.length co17] rfl (by (try simp only [za, zc, zn]); first | done | rfl) ?_; (with_reducible refine (impl_FromApery.calls k _ _ t854 t857 t860 _ ?side1 ?side2 A8.out).mono ?_); (case side1 => repeat (first | exact (Kd.R_reads' HO856.out).2.2 | (with_reducible refine Kd.C_alloc ?_ _) | (with_reducible refine Kd.C_drewN ?_ _) | (with_reducible refine Kd.C_drew ?_))); (case side2 => exact (Kd.R_reads' HO856.out).2.1); rintro e w18 ⟨v858, rfl, ho0, hb⟩; refine ⟨_, rfl, ?_⟩; have HO859 := Aside0.mk (Kd.R_lower (Kd.R_new' (Kd.R_new' (Kd.R_new' ho0 (Kd.Q_lt (zQ HO848.out))) (Kd.R_lt (zR HO853.out))) (Kd.R_lt (zR HO856.out))) (zS HB.out)); replace HO848 := Aside0.mk (Kd.Q_elder' (zQ HO848.out) (Kd.R_base ho0) hb); replace HO853 := Aside0.mk (Kd.R_elder' (zR HO853.out) (Kd.R_base ho0) hb); replace HO856 := Aside0.mk (Kd.R_elder' (zR HO856.out) (Kd.R_base ho0) hb); replace BK850 := Aside0.mk (blk_below (zk BK850.out) hb); replace HB := Aside0.mk (below_step (zB HB.out) hb); (try clear hb); (try clear hb2); (try clear hk); (try clear hi); (try clear ho0)) | ((with_reducible refine gate_dst (N := 7) rfl ?_); refine box_event ?hg (N := 7) ?hd (cs := #[.slice none 0 0]) (t := 26) ?hr ?_; (case hd => rfl); (case hg => rfl); (case hr => first | (go_simp; done) | (go_simp; rfl)); intro gb861 hg w19 hbox hb; replace HO848 := Aside0.mk (Kd.Q_below (zQ HO848.out) hb); replace HO853 := Aside0.mk (Kd.R_below (zR HO853.out) hb); replace HO856 := Aside0.mk (Kd.R_below (zR HO856.out) hb); replace HO859 := Aside0.mk (Kd.R_below (zR HO859.out) hb); have BK861 := Aside0.mk (hbox); have GW861 := Aside0.mk ((by rw [hg]; exact (zS HB.out) : w.heap.size ≤ gb861)); have GE861 := Aside0.mk ((by rw [hg]; exact (zS HB.out) : w.heap.size ≤ gb861)); replace HB := Aside0.mk (below_step (zB HB.out) hb); have NB850_861 := Aside0.mk ((by rw [hg]; exact Nat.ne_of_lt (blk_lt (g := gb850) (o := .cells #[.slice Ao13 t846.length co13] 26 (0, 0)) (zk BK850.out)) : gb850 ≠ gb861)); have NB861_850 := Aside0.mk ((by rw [hg]; exact Nat.ne_of_gt (blk_lt (g := gb850) (o := .cells #[.slice Ao13 t846.length co13] 26 (0, 0)) (zk BK850.out)) : gb861 ≠ gb850)); replace BK850 := Aside0.mk (blk_below (zk BK850.out) hb); have := Ge.mk GE861.out; clear hb hbox hg; obtain ⟨Ao20, co20, eo20⟩ := Kd.R_slice HO859.out; subst eo20; have hnb21 := NB861_850.out; have hnc21 := NB850_861.out; have hcz22_0 : w19.cell? ⟨gb861, 0, none⟩ = some (.slice none 0 0) := (blk_cell BK861.out 0).trans rfl; have hfz22_0 := blk_frozen BK861.out 0) | ((with_reducible refine gate_callee (f := 10) rfl ?_); refine goesL_ (some 33) rfl rfl Try.func10 (by kernel_rfl) rfl #[.slice Ao17 t854.length co17] rfl (by (try simp only [za, zc, zn]); first | done | rfl) ?_; (with_reducible refine (spec_FromApery.calls k _ _ t854 t862 t865 _ ?side1 ?side2 A9.out).mono ?_); (case side1 => refine (Kd.R_reads' (e := 3) (base := w.heap.size) (ok := fun k_ => (((True ∧ some k_ ≠ (.slice Ao13 t846.length co13 : Value).ownBlock) ∧ some k_ ≠ (v852 : Value).ownBlock) ∧ some k_ ≠ (.slice Ao20 t857.length co20 : Value).ownBlock)) (n := t854.length) (c := co17) ?_).2.2; exact (zR ((Kd.R_mono (Kd.R_far (p := ⟨gb861, 0, none⟩) (Kd.R_types HO856.out BK861.out (by decide)) (fun _ hk => hk.2) (.slice Ao20 t857.length co20)) (fun _ h_ => h_.1))))); (case side2 => exact (Kd.R_reads' HO856.out).2.1); rintro e w23 ⟨v863, rfl, ho0, hb⟩; refine ⟨_, rfl, ?_⟩; have HO864 := Aside0.mk (Kd.R_lower (Kd.R_new' (Kd.R_new' (Kd.R_new' (Kd.R_new' ho0 (Kd.Q_lt (zQ ((Kd.Q_mono (Kd.Q_far (p := ⟨gb861, 0, none⟩) (Kd.Q_types HO848.out BK861.out (by decide)) (fun _ hk => hk.2) (.slice Ao20 t857.length co20)) (fun _ h_ => h_.1)))))) (Kd.R_lt (zR ((Kd.R_mono (Kd.R_far (p := ⟨gb861, 0, none⟩) (Kd.R_types HO853.out BK861.out (by decide)) (fun _ hk => hk.2) (.slice Ao20 t857.length co20)) (fun _ h_ => h_.1)))))) (Kd.R_lt (zR ((Kd.R_mono (Kd.R_far (p := ⟨gb861, 0, none⟩) (Kd.R_types HO856.out BK861.out (by decide)) (fun _ hk => hk.2) (.slice Ao20 t857.length co20)) (fun _ h_ => h_.1)))))) (Kd.R_lt (zR ((Kd.R_mono (Kd.R_far (p := ⟨gb861, 0, none⟩) (Kd.R_types HO859.out BK861.out (by decide)) (fun _ hk => hk.2) (.slice Ao20 t857.length co20)) (fun _ h_ => h_.1)))))) (zS HB.out)); replace HO848 := Aside0.mk (Kd.Q_elder' (zQ ((Kd.Q_mono (Kd.Q_far (p := ⟨gb861, 0, none⟩) (Kd.Q_types HO848.out BK861.out (by decide)) (fun _ hk => hk.2) (.slice Ao20 t857.length co20)) (fun _ h_ => h_.1)))) (Kd.R_base ho0) hb); replace HO853 := Aside0.mk (Kd.R_elder' (zR ((Kd.R_mono (Kd.R_far (p := ⟨gb861, 0, none⟩) (Kd.R_types HO853.out BK861.out (by decide)) (fun _ hk => hk.2) (.slice Ao20 t857.length co20)) (fun _ h_ => h_.1)))) (Kd.R_base ho0) hb); replace HO856 := Aside0.mk (Kd.R_elder' (zR ((Kd.R_mono (Kd.R_far (p := ⟨gb861, 0, none⟩) (Kd.R_types HO856.out BK861.out (by decide)) (fun _ hk => hk.2) (.slice Ao20 t857.length co20)) (fun _ h_ => h_.1)))) (Kd.R_base ho0) hb); replace HO859 := Aside0.mk (Kd.R_elder' (zR ((Kd.R_mono (Kd.R_far (p := ⟨gb861, 0, none⟩) (Kd.R_types HO859.out BK861.out (by decide)) (fun _ hk => hk.2) (.slice Ao20 t857.length co20)) (fun _ h_ => h_.1)))) (Kd.R_base ho0) hb); replace BK850 := Aside0.mk (blk_below (g := gb850) (o := .cells #[.slice Ao13 t846.length co13] 26 (0, 0)) (by (with_reducible repeat (first | refine blk_drewN ?_ _ | refine blk_drew ?_ | refine blk_alloc ?_ _)); refine blk_far ?_ NB850_861.out _; (with_reducible repeat (first | refine blk_drewN ?_ _ | refine blk_drew ?_ | refine blk_alloc ?_ _)); exact BK850.out) hb); replace BK861 := Aside0.mk (blk_below (g := gb861) (o := .cells #[.slice Ao20 t857.length co20] 26 (0, 0)) (by (with_reducible repeat (first | refine blk_drewN ?_ _ | refine blk_drew ?_ | refine blk_alloc ?_ _)); refine blk_put (cs := #[.slice none 0 0]) ?_ 0 _ rfl; (with_reducible repeat (first | refine blk_drewN ?_ _ | refine blk_drew ?_ | refine blk_alloc ?_ _)); exact BK861.out) hb); replace HB := Aside0.mk (below_step (zB HB.out) hb); (try clear hb); (try clear hb2); (try clear hk); (try clear hi); (try clear ho0)) | ((with_reducible refine gate_dst (N := 9) rfl ?_); refine box_event ?hg (N := 9) ?hd (cs := #[.slice none 0 0]) (t := 26) ?hr ?_; (case hd => rfl); (case hg => rfl); (case hr => first | (go_simp; done) | (go_simp; rfl)); intro gb866 hg w24 hbox hb; replace HO848 := Aside0.mk (Kd.Q_below (zQ HO848.out) hb); replace HO853 := Aside0.mk (Kd.R_below (zR HO853.out) hb); replace HO856 := Aside0.mk (Kd.R_below (zR HO856.out) hb); replace HO859 := Aside0.mk (Kd.R_below (zR HO859.out) hb); replace HO864 := Aside0.mk (Kd.R_below (zR HO864.out) hb); have BK866 := Aside0.mk (hbox); have GW866 := Aside0.mk ((by rw [hg]; exact (zS HB.out) : w.heap.size ≤ gb866)); have GE866 := Aside0.mk ((by rw [hg]; exact (zS HB.out) : w.heap.size ≤ gb866)); replace HB := Aside0.mk (below_step (zB HB.out) hb); have NB850_866 := Aside0.mk ((by rw [hg]; exact Nat.ne_of_lt (blk_lt (g := gb850) (o := .cells #[.slice Ao13 t846.length co13] 26 (0, 0)) (zk BK850.out)) : gb850 ≠ gb866)); have NB866_850 := Aside0.mk ((by rw [hg]; exact Nat.ne_of_gt (blk_lt (g := gb850) (o := .cells #[.slice Ao13 t846.length co13] 26 (0, 0)) (zk BK850.out)) : gb866 ≠ gb850)); replace BK850 := Aside0.mk (blk_below (zk BK850.out) hb); have NB861_866 := Aside0.mk ((by rw [hg]; exact Nat.ne_of_lt (blk_lt (g := gb861) (o := .cells #[.slice Ao20 t857.length co20] 26 (0, 0)) (zk BK861.out)) : gb861 ≠ gb866)); have NB866_861 := Aside0.mk ((by rw [hg]; exact Nat.ne_of_gt (blk_lt (g := gb861) (o := .cells #[.slice Ao20 t857.length co20] 26 (0, 0)) (zk BK861.out)) : gb866 ≠ gb861)); replace BK861 := Aside0.mk (blk_below (zk BK861.out) hb); have := Ge.mk GE866.out; clear hb hbox hg; obtain ⟨Ao25, co25, eo25⟩ := Kd.R_slice HO864.out; subst eo25; have hnb26 := NB866_850.out; have hnc26 := NB850_866.out; have hnb27 := NB866_861.out; have hnc27 := NB861_866.out; have hcz28_0 : w24.cell? ⟨gb866, 0, none⟩ = some (.slice none 0 0) := (blk_cell BK866.out 0).trans rfl; have hfz28_0 := blk_frozen BK866.out 0))
  (try simp only [Act.put, List.setIfInBounds_toArray, List.set_cons_zero, List.set_cons_succ]); go_cut [64] (fun v64 wc => ∃ (kq : Nat) (x64_9 : Bool), v64 = .bool x64_9 ∧ Aside0 (laws_FnApery.j0 kq t849 t851 x64_9 t846 = some r) ∧ Aside0 (kq ≤ k) ∧ Aside0 (Kd.R (Kd.int .i64) 3 wc w.heap.size (fun k_ => some k_ ≠ ((.slice Ao13 t846.length co13) : Value).ownBlock ∧ some k_ ≠ ((.slice Ao20 t857.length co20) : Value).ownBlock ∧ some k_ ≠ ((.slice Ao25 t862.length co25) : Value).ownBlock) v852 t851) ∧ Aside0 (Kd.Q (Kd.int .i64) 3 wc w.heap.size (fun k_ => some k_ ≠ (v852 : Value).ownBlock ∧ some k_ ≠ ((.slice Ao20 t857.length co20) : Value).ownBlock ∧ some k_ ≠ ((.slice Ao25 t862.length co25) : Value).ownBlock) (.slice Ao13 t846.length co13) t846) ∧ Aside0 (Kd.Q (Kd.int .i64) 3 wc w.heap.size (fun k_ => some k_ ≠ (v852 : Value).ownBlock ∧ some k_ ≠ ((.slice Ao13 t846.length co13) : Value).ownBlock ∧ some k_ ≠ ((.slice Ao25 t862.length co25) : Value).ownBlock) (.slice Ao20 t857.length co20) t857) ∧ Aside0 (Kd.Q (Kd.int .i64) 3 wc w.heap.size (fun k_ => some k_ ≠ (v852 : Value).ownBlock ∧ some k_ ≠ ((.slice Ao13 t846.length co13) : Value).ownBlock ∧ some k_ ≠ ((.slice Ao20 t857.length co20) : Value).ownBlock) (.slice Ao25 t862.length co25) t862) ∧ Aside0 (wc.heap[gb850]? = some (.cells #[(.slice Ao13 t846.length co13)] 26 (0, 0))) ∧ Aside0 (wc.heap[gb861]? = some (.cells #[(.slice Ao20 t857.length co20)] 26 (0, 0))) ∧ Aside0 (wc.heap[gb866]? = some (.cells #[(.slice Ao25 t862.length co25)] 26 (0, 0))) ∧ Aside0 (Below w.heap.size w wc))
  case first =>
   have H := HC10.out; clear HC10; obtain ⟨t867, A29, H⟩ := zb H; obtain ⟨t870, A30, H⟩ := zb H
   by_cases c31 : t870 = true
   ·subst c31; rw [zT] at H
    by_cases c32 : (t860 != t865) = true
    ·rw [if_pos c32] at H; exact absurd (HRT.out.symm.trans (laws_FnApery.no_j0 _ _ _ _ _ H)) (by decide)
    ·rw [if_neg c32] at H; have c32b0 : (t860 != t865) = false := by simpa using c32
     (try (have c32b1 : decide (t860 = t865) = true := by simpa using c32)); (try (have c32b2 : (t860 == t865) = true := by simpa using c32)); clear c32; (first | rw [c32b0] | rw [c32b1] | (simp only [i64_w, i32_w]; rw [c32b0]) | skip); obtain ⟨t871, A39, H⟩ := zb H
     by_cases c40 : t871 = true
     ·subst c40; rw [zT] at H
      by_cases c41 : t860 = true
      ·subst c41; rw [zT] at H; obtain ⟨t872, A42, H⟩ := zb H; obtain ⟨t875, A43, H⟩ := zb H; have H' := Aside0.mk H; clear H; have hnb44 := NB850_861.out; have hnc44 := NB861_850.out; have hnb45 := NB850_866.out; have hnc45 := NB866_850.out; have hcz46_0 : w24.cell? ⟨gb850, 0, none⟩ = some (.slice Ao13 t846.length co13) := (blk_cell BK850.out 0).trans rfl; have hfz46_0 := blk_frozen BK850.out 0; go_wp2_with (first | ((with_reducible refine gate_callee (f := 12) rfl ?_); refine goesL_ (some 39) rfl rfl Try.func12 (by kernel_rfl) rfl #[.agg #[.slice Ao13 t846.length co13], .int .i64 t849] rfl (by (try simp only [za, zc, zn]); first | done | rfl) ?_; (with_reducible refine (spec_AperySet.calls k _ _ t846 t849 t867 _ ?side1 ?side2 A29.out).mono ?_); (case side1 => refine (Kd.Q_reads' (e := 3) (base := w.heap.size) (ok := fun k_ => ((((True ∧ some k_ ≠ (v852 : Value).ownBlock) ∧ some k_ ≠ (.slice Ao17 t854.length co17 : Value).ownBlock) ∧ some k_ ≠ (.slice Ao20 t857.length co20 : Value).ownBlock) ∧ some k_ ≠ (.slice Ao25 t862.length co25 : Value).ownBlock)) (n := t846.length) (c := co13) ?_).2.2; exact (zQ ((Kd.Q_mono (Kd.Q_far (p := ⟨gb866, 0, none⟩) (Kd.Q_types HO848.out BK866.out (by decide)) (fun _ hk => hk.2) (.slice Ao25 t862.length co25)) (fun _ h_ => h_.1))))); (case side2 => exact (Kd.Q_reads' HO848.out).2.1); rintro e w47 ⟨v868, rfl, ho0, hb⟩; refine ⟨_, rfl, ?_⟩; have HO869 := Aside0.mk (Kd.R_lower (Kd.R_new' (Kd.R_new' (Kd.R_new' (Kd.R_new' (Kd.R_new' ho0 (Kd.Q_lt (zQ ((Kd.Q_mono (Kd.Q_far (p := ⟨gb866, 0, none⟩) (Kd.Q_types HO848.out BK866.out (by decide)) (fun _ hk => hk.2) (.slice Ao25 t862.length co25)) (fun _ h_ => h_.1)))))) (Kd.R_lt (zR ((Kd.R_mono (Kd.R_far (p := ⟨gb866, 0, none⟩) (Kd.R_types HO853.out BK866.out (by decide)) (fun _ hk => hk.2) (.slice Ao25 t862.length co25)) (fun _ h_ => h_.1)))))) (Kd.R_lt (zR ((Kd.R_mono (Kd.R_far (p := ⟨gb866, 0, none⟩) (Kd.R_types HO856.out BK866.out (by decide)) (fun _ hk => hk.2) (.slice Ao25 t862.length co25)) (fun _ h_ => h_.1)))))) (Kd.R_lt (zR ((Kd.R_mono (Kd.R_far (p := ⟨gb866, 0, none⟩) (Kd.R_types HO859.out BK866.out (by decide)) (fun _ hk => hk.2) (.slice Ao25 t862.length co25)) (fun _ h_ => h_.1)))))) (Kd.R_lt (zR ((Kd.R_mono (Kd.R_far (p := ⟨gb866, 0, none⟩) (Kd.R_types HO864.out BK866.out (by decide)) (fun _ hk => hk.2) (.slice Ao25 t862.length co25)) (fun _ h_ => h_.1)))))) (zS HB.out)); replace HO848 := Aside0.mk (Kd.Q_elder' (zQ ((Kd.Q_mono (Kd.Q_far (p := ⟨gb866, 0, none⟩) (Kd.Q_types HO848.out BK866.out (by decide)) (fun _ hk => hk.2) (.slice Ao25 t862.length co25)) (fun _ h_ => h_.1)))) (Kd.R_base ho0) hb); replace HO853 := Aside0.mk (Kd.R_elder' (zR ((Kd.R_mono (Kd.R_far (p := ⟨gb866, 0, none⟩) (Kd.R_types HO853.out BK866.out (by decide)) (fun _ hk => hk.2) (.slice Ao25 t862.length co25)) (fun _ h_ => h_.1)))) (Kd.R_base ho0) hb); replace HO856 := Aside0.mk (Kd.R_elder' (zR ((Kd.R_mono (Kd.R_far (p := ⟨gb866, 0, none⟩) (Kd.R_types HO856.out BK866.out (by decide)) (fun _ hk => hk.2) (.slice Ao25 t862.length co25)) (fun _ h_ => h_.1)))) (Kd.R_base ho0) hb); replace HO859 := Aside0.mk (Kd.R_elder' (zR ((Kd.R_mono (Kd.R_far (p := ⟨gb866, 0, none⟩) (Kd.R_types HO859.out BK866.out (by decide)) (fun _ hk => hk.2) (.slice Ao25 t862.length co25)) (fun _ h_ => h_.1)))) (Kd.R_base ho0) hb); replace HO864 := Aside0.mk (Kd.R_elder' (zR ((Kd.R_mono (Kd.R_far (p := ⟨gb866, 0, none⟩) (Kd.R_types HO864.out BK866.out (by decide)) (fun _ hk => hk.2) (.slice Ao25 t862.length co25)) (fun _ h_ => h_.1)))) (Kd.R_base ho0) hb); replace BK850 := Aside0.mk (blk_below (g := gb850) (o := .cells #[.slice Ao13 t846.length co13] 26 (0, 0)) (by (with_reducible repeat (first | refine blk_drewN ?_ _ | refine blk_drew ?_ | refine blk_alloc ?_ _)); refine blk_far ?_ NB850_866.out _; (with_reducible repeat (first | refine blk_drewN ?_ _ | refine blk_drew ?_ | refine blk_alloc ?_ _)); exact BK850.out) hb); replace BK861 := Aside0.mk (blk_below (g := gb861) (o := .cells #[.slice Ao20 t857.length co20] 26 (0, 0)) (by (with_reducible repeat (first | refine blk_drewN ?_ _ | refine blk_drew ?_ | refine blk_alloc ?_ _)); refine blk_far ?_ NB861_866.out _; (with_reducible repeat (first | refine blk_drewN ?_ _ | refine blk_drew ?_ | refine blk_alloc ?_ _)); exact BK861.out) hb); replace BK866 := Aside0.mk (blk_below (g := gb866) (o := .cells #[.slice Ao25 t862.length co25] 26 (0, 0)) (by (with_reducible repeat (first | refine blk_drewN ?_ _ | refine blk_drew ?_ | refine blk_alloc ?_ _)); refine blk_put (cs := #[.slice none 0 0]) ?_ 0 _ rfl; (with_reducible repeat (first | refine blk_drewN ?_ _ | refine blk_drew ?_ | refine blk_alloc ?_ _)); exact BK866.out) hb); replace HB := Aside0.mk (below_step (zB HB.out) hb); (try clear hb); (try clear hb2); (try clear hk); (try clear hi); (try clear ho0); obtain ⟨Ao48, co48, eo48⟩ := Kd.R_slice HO853.out; subst eo48; obtain ⟨Ao49, co49, eo49⟩ := Kd.R_slice HO869.out; subst eo49) | ((with_reducible refine gate_callee (f := 11) rfl ?_); refine goesL_ (some 40) rfl rfl Try.func11 (by kernel_rfl) rfl #[.slice Ao48 t851.length co48, .slice Ao49 t867.length co49] rfl (by (try simp only [za, zc, zn]); first | done | rfl) ?_; (with_reducible refine (laws_sameInts.calls k _ _ t851 _ _ t867 true _ ?side1 ?side2 ?side3 ?side4 A30.out).mono ?_); (case side1 => repeat (first | exact (Kd.R_reads' HO853.out).2.2 | (with_reducible refine Kd.C_alloc ?_ _) | (with_reducible refine Kd.C_drewN ?_ _) | (with_reducible refine Kd.C_drew ?_))); (case side2 => exact (Kd.R_reads' HO853.out).2.1); (case side3 => repeat (first | exact (Kd.R_reads' HO869.out).2.2 | (with_reducible refine Kd.C_alloc ?_ _) | (with_reducible refine Kd.C_drewN ?_ _) | (with_reducible refine Kd.C_drew ?_))); (case side4 => exact (Kd.R_reads' HO869.out).2.1); rintro e w' ⟨rfl, ⟨nd, rfl⟩⟩; refine ⟨_, rfl, ?_⟩; have hnb50 := NB861_866.out; have hnc50 := NB866_861.out; have hcz51_0 : w47.cell? ⟨gb861, 0, none⟩ = some (.slice Ao20 t857.length co20) := (blk_cell BK861.out 0).trans rfl; have hfz51_0 := blk_frozen BK861.out 0; have hcz52_0 : w47.cell? ⟨gb866, 0, none⟩ = some (.slice Ao25 t862.length co25) := (blk_cell BK866.out 0).trans rfl; have hfz52_0 := blk_frozen BK866.out 0) | (go_at_call 13; (with_reducible refine (spec_EqualSemigroup.calls k _ _ t857 _ _ t862 true _ ?side1 ?side2 ?side3 ?side4 A39.out).mono ?_); (case side1 => repeat (first | exact (Kd.R_reads' HO859.out).2.2 | (with_reducible refine Kd.C_alloc ?_ _) | (with_reducible refine Kd.C_drewN ?_ _) | (with_reducible refine Kd.C_drew ?_))); (case side2 => exact (Kd.R_reads' HO859.out).2.1); (case side3 => repeat (first | exact (Kd.R_reads' HO864.out).2.2 | (with_reducible refine Kd.C_alloc ?_ _) | (with_reducible refine Kd.C_drewN ?_ _) | (with_reducible refine Kd.C_drew ?_))); (case side4 => exact (Kd.R_reads' HO864.out).2.1); rintro e w53 ⟨rfl, hb⟩; replace HO848 := Aside0.mk (Kd.Q_below (zQ HO848.out) hb); replace HO853 := Aside0.mk (Kd.R_below (zR HO853.out) hb); replace HO856 := Aside0.mk (Kd.R_below (zR HO856.out) hb); replace HO859 := Aside0.mk (Kd.R_below (zR HO859.out) hb); replace HO864 := Aside0.mk (Kd.R_below (zR HO864.out) hb); replace HO869 := Aside0.mk (Kd.R_below (zR HO869.out) hb); replace BK850 := Aside0.mk (blk_below (zk BK850.out) hb); replace BK861 := Aside0.mk (blk_below (zk BK861.out) hb); replace BK866 := Aside0.mk (blk_below (zk BK866.out) hb); replace HB := Aside0.mk (below_step (zB HB.out) hb); (try clear hb); (try clear hb2); (try clear hk); (try clear hi); have hcz54_0 : w53.cell? ⟨gb861, 0, none⟩ = some (.slice Ao20 t857.length co20) := (blk_cell BK861.out 0).trans rfl; have hfz54_0 := blk_frozen BK861.out 0) | (go_at_call 7; (with_reducible refine (impl_AperySet.calls k _ _ t857 (t854.length : Int) t872 _ ?side1 ?side2 A42.out).mono ?_); (case side1 => repeat (first | exact (Kd.R_reads' HO859.out).2.2 | (with_reducible refine Kd.C_alloc ?_ _) | (with_reducible refine Kd.C_drewN ?_ _) | (with_reducible refine Kd.C_drew ?_))); (case side2 => exact (Kd.R_reads' HO859.out).2.1); rintro e w55 ⟨v873, rfl, ho0, hb⟩; have HO874 := Aside0.mk (Kd.R_lower (Kd.R_new' (Kd.R_new' (Kd.R_new' (Kd.R_new' (Kd.R_new' (Kd.R_new' ho0 (Kd.Q_lt (zQ HO848.out))) (Kd.R_lt (zR HO853.out))) (Kd.R_lt (zR HO856.out))) (Kd.R_lt (zR HO859.out))) (Kd.R_lt (zR HO864.out))) (Kd.R_lt (zR HO869.out))) (zS HB.out)); replace HO848 := Aside0.mk (Kd.Q_elder' (zQ HO848.out) (Kd.R_base ho0) hb); replace HO853 := Aside0.mk (Kd.R_elder' (zR HO853.out) (Kd.R_base ho0) hb); replace HO856 := Aside0.mk (Kd.R_elder' (zR HO856.out) (Kd.R_base ho0) hb); replace HO859 := Aside0.mk (Kd.R_elder' (zR HO859.out) (Kd.R_base ho0) hb); replace HO864 := Aside0.mk (Kd.R_elder' (zR HO864.out) (Kd.R_base ho0) hb); replace HO869 := Aside0.mk (Kd.R_elder' (zR HO869.out) (Kd.R_base ho0) hb); replace BK850 := Aside0.mk (blk_below (zk BK850.out) hb); replace BK861 := Aside0.mk (blk_below (zk BK861.out) hb); replace BK866 := Aside0.mk (blk_below (zk BK866.out) hb); replace HB := Aside0.mk (below_step (zB HB.out) hb); (try clear hb); (try clear hb2); (try clear hk); (try clear hi); (try clear ho0); obtain ⟨Ao56, co56, eo56⟩ := Kd.R_slice HO874.out; subst eo56) | (go_at_call 11; (with_reducible refine (laws_sameInts.calls k _ _ t872 _ _ t854 t875 _ ?side1 ?side2 ?side3 ?side4 A43.out).mono ?_); (case side1 => repeat (first | exact (Kd.R_reads' HO874.out).2.2 | (with_reducible refine Kd.C_alloc ?_ _) | (with_reducible refine Kd.C_drewN ?_ _) | (with_reducible refine Kd.C_drew ?_))); (case side2 => exact (Kd.R_reads' HO874.out).2.1); (case side3 => repeat (first | exact (Kd.R_reads' HO856.out).2.2 | (with_reducible refine Kd.C_alloc ?_ _) | (with_reducible refine Kd.C_drewN ?_ _) | (with_reducible refine Kd.C_drew ?_))); (case side4 => exact (Kd.R_reads' HO856.out).2.1); rintro e w' ⟨rfl, ⟨nd, rfl⟩⟩))
       go_meet
       case rel => exact ⟨_, (!t875), (by first | rfl | (simp; done) | (simp [*]; done)), H', ⟨by first | omega | exact Nat.le_refl _⟩, ⟨zR (Kd.R_mono HO853.out (fun _ hk => ⟨hk.1.1.1.1.1.2, ⟨hk.1.1.1.2, hk.1.1.2⟩⟩))⟩, ⟨zQ (Kd.Q_mono HO848.out (fun _ hk => ⟨hk.1.1.1.1.1.2, ⟨hk.1.1.1.2, hk.1.1.2⟩⟩))⟩, ⟨Kd.Q_of_R (zR (Kd.R_mono HO859.out (fun _ hk => ⟨hk.1.1.1.1.2, ⟨hk.1.1.1.1.1.2, hk.1.1.2⟩⟩)))⟩, ⟨Kd.Q_of_R (zR (Kd.R_mono HO864.out (fun _ hk => ⟨hk.1.1.1.1.2, ⟨hk.1.1.1.1.1.2, hk.1.1.2⟩⟩)))⟩, ⟨zk BK850.out⟩, ⟨zk BK861.out⟩, ⟨zk BK866.out⟩, ⟨zB HB.out⟩⟩
      ·replace c41 := Bool.eq_false_iff.mpr c41; subst c41; rw [zF] at H; have H' := Aside0.mk H; clear H; have hnb57 := NB850_861.out; have hnc57 := NB861_850.out; have hnb58 := NB850_866.out; have hnc58 := NB866_850.out; have hcz59_0 : w24.cell? ⟨gb850, 0, none⟩ = some (.slice Ao13 t846.length co13) := (blk_cell BK850.out 0).trans rfl; have hfz59_0 := blk_frozen BK850.out 0; go_wp2_with (first | ((with_reducible refine gate_callee (f := 12) rfl ?_); refine goesL_ (some 39) rfl rfl Try.func12 (by kernel_rfl) rfl #[.agg #[.slice Ao13 t846.length co13], .int .i64 t849] rfl (by (try simp only [za, zc, zn]); first | done | rfl) ?_; (with_reducible refine (spec_AperySet.calls k _ _ t846 t849 t867 _ ?side1 ?side2 A29.out).mono ?_); (case side1 => refine (Kd.Q_reads' (e := 3) (base := w.heap.size) (ok := fun k_ => ((((True ∧ some k_ ≠ (v852 : Value).ownBlock) ∧ some k_ ≠ (.slice Ao17 t854.length co17 : Value).ownBlock) ∧ some k_ ≠ (.slice Ao20 t857.length co20 : Value).ownBlock) ∧ some k_ ≠ (.slice Ao25 t862.length co25 : Value).ownBlock)) (n := t846.length) (c := co13) ?_).2.2; exact (zQ ((Kd.Q_mono (Kd.Q_far (p := ⟨gb866, 0, none⟩) (Kd.Q_types HO848.out BK866.out (by decide)) (fun _ hk => hk.2) (.slice Ao25 t862.length co25)) (fun _ h_ => h_.1))))); (case side2 => exact (Kd.Q_reads' HO848.out).2.1); rintro e w60 ⟨v868, rfl, ho0, hb⟩; refine ⟨_, rfl, ?_⟩; have HO869 := Aside0.mk (Kd.R_lower (Kd.R_new' (Kd.R_new' (Kd.R_new' (Kd.R_new' (Kd.R_new' ho0 (Kd.Q_lt (zQ ((Kd.Q_mono (Kd.Q_far (p := ⟨gb866, 0, none⟩) (Kd.Q_types HO848.out BK866.out (by decide)) (fun _ hk => hk.2) (.slice Ao25 t862.length co25)) (fun _ h_ => h_.1)))))) (Kd.R_lt (zR ((Kd.R_mono (Kd.R_far (p := ⟨gb866, 0, none⟩) (Kd.R_types HO853.out BK866.out (by decide)) (fun _ hk => hk.2) (.slice Ao25 t862.length co25)) (fun _ h_ => h_.1)))))) (Kd.R_lt (zR ((Kd.R_mono (Kd.R_far (p := ⟨gb866, 0, none⟩) (Kd.R_types HO856.out BK866.out (by decide)) (fun _ hk => hk.2) (.slice Ao25 t862.length co25)) (fun _ h_ => h_.1)))))) (Kd.R_lt (zR ((Kd.R_mono (Kd.R_far (p := ⟨gb866, 0, none⟩) (Kd.R_types HO859.out BK866.out (by decide)) (fun _ hk => hk.2) (.slice Ao25 t862.length co25)) (fun _ h_ => h_.1)))))) (Kd.R_lt (zR ((Kd.R_mono (Kd.R_far (p := ⟨gb866, 0, none⟩) (Kd.R_types HO864.out BK866.out (by decide)) (fun _ hk => hk.2) (.slice Ao25 t862.length co25)) (fun _ h_ => h_.1)))))) (zS HB.out)); replace HO848 := Aside0.mk (Kd.Q_elder' (zQ ((Kd.Q_mono (Kd.Q_far (p := ⟨gb866, 0, none⟩) (Kd.Q_types HO848.out BK866.out (by decide)) (fun _ hk => hk.2) (.slice Ao25 t862.length co25)) (fun _ h_ => h_.1)))) (Kd.R_base ho0) hb); replace HO853 := Aside0.mk (Kd.R_elder' (zR ((Kd.R_mono (Kd.R_far (p := ⟨gb866, 0, none⟩) (Kd.R_types HO853.out BK866.out (by decide)) (fun _ hk => hk.2) (.slice Ao25 t862.length co25)) (fun _ h_ => h_.1)))) (Kd.R_base ho0) hb); replace HO856 := Aside0.mk (Kd.R_elder' (zR ((Kd.R_mono (Kd.R_far (p := ⟨gb866, 0, none⟩) (Kd.R_types HO856.out BK866.out (by decide)) (fun _ hk => hk.2) (.slice Ao25 t862.length co25)) (fun _ h_ => h_.1)))) (Kd.R_base ho0) hb); replace HO859 := Aside0.mk (Kd.R_elder' (zR ((Kd.R_mono (Kd.R_far (p := ⟨gb866, 0, none⟩) (Kd.R_types HO859.out BK866.out (by decide)) (fun _ hk => hk.2) (.slice Ao25 t862.length co25)) (fun _ h_ => h_.1)))) (Kd.R_base ho0) hb); replace HO864 := Aside0.mk (Kd.R_elder' (zR ((Kd.R_mono (Kd.R_far (p := ⟨gb866, 0, none⟩) (Kd.R_types HO864.out BK866.out (by decide)) (fun _ hk => hk.2) (.slice Ao25 t862.length co25)) (fun _ h_ => h_.1)))) (Kd.R_base ho0) hb); replace BK850 := Aside0.mk (blk_below (g := gb850) (o := .cells #[.slice Ao13 t846.length co13] 26 (0, 0)) (by (with_reducible repeat (first | refine blk_drewN ?_ _ | refine blk_drew ?_ | refine blk_alloc ?_ _)); refine blk_far ?_ NB850_866.out _; (with_reducible repeat (first | refine blk_drewN ?_ _ | refine blk_drew ?_ | refine blk_alloc ?_ _)); exact BK850.out) hb); replace BK861 := Aside0.mk (blk_below (g := gb861) (o := .cells #[.slice Ao20 t857.length co20] 26 (0, 0)) (by (with_reducible repeat (first | refine blk_drewN ?_ _ | refine blk_drew ?_ | refine blk_alloc ?_ _)); refine blk_far ?_ NB861_866.out _; (with_reducible repeat (first | refine blk_drewN ?_ _ | refine blk_drew ?_ | refine blk_alloc ?_ _)); exact BK861.out) hb); replace BK866 := Aside0.mk (blk_below (g := gb866) (o := .cells #[.slice Ao25 t862.length co25] 26 (0, 0)) (by (with_reducible repeat (first | refine blk_drewN ?_ _ | refine blk_drew ?_ | refine blk_alloc ?_ _)); refine blk_put (cs := #[.slice none 0 0]) ?_ 0 _ rfl; (with_reducible repeat (first | refine blk_drewN ?_ _ | refine blk_drew ?_ | refine blk_alloc ?_ _)); exact BK866.out) hb); replace HB := Aside0.mk (below_step (zB HB.out) hb); (try clear hb); (try clear hb2); (try clear hk); (try clear hi); (try clear ho0); obtain ⟨Ao61, co61, eo61⟩ := Kd.R_slice HO853.out; subst eo61; obtain ⟨Ao62, co62, eo62⟩ := Kd.R_slice HO869.out; subst eo62) | ((with_reducible refine gate_callee (f := 11) rfl ?_); refine goesL_ (some 40) rfl rfl Try.func11 (by kernel_rfl) rfl #[.slice Ao61 t851.length co61, .slice Ao62 t867.length co62] rfl (by (try simp only [za, zc, zn]); first | done | rfl) ?_; (with_reducible refine (laws_sameInts.calls k _ _ t851 _ _ t867 true _ ?side1 ?side2 ?side3 ?side4 A30.out).mono ?_); (case side1 => repeat (first | exact (Kd.R_reads' HO853.out).2.2 | (with_reducible refine Kd.C_alloc ?_ _) | (with_reducible refine Kd.C_drewN ?_ _) | (with_reducible refine Kd.C_drew ?_))); (case side2 => exact (Kd.R_reads' HO853.out).2.1); (case side3 => repeat (first | exact (Kd.R_reads' HO869.out).2.2 | (with_reducible refine Kd.C_alloc ?_ _) | (with_reducible refine Kd.C_drewN ?_ _) | (with_reducible refine Kd.C_drew ?_))); (case side4 => exact (Kd.R_reads' HO869.out).2.1); rintro e w' ⟨rfl, ⟨nd, rfl⟩⟩; refine ⟨_, rfl, ?_⟩; have hnb63 := NB861_866.out; have hnc63 := NB866_861.out; have hcz64_0 : w60.cell? ⟨gb861, 0, none⟩ = some (.slice Ao20 t857.length co20) := (blk_cell BK861.out 0).trans rfl; have hfz64_0 := blk_frozen BK861.out 0; have hcz65_0 : w60.cell? ⟨gb866, 0, none⟩ = some (.slice Ao25 t862.length co25) := (blk_cell BK866.out 0).trans rfl; have hfz65_0 := blk_frozen BK866.out 0) | (go_at_call 13; (with_reducible refine (spec_EqualSemigroup.calls k _ _ t857 _ _ t862 true _ ?side1 ?side2 ?side3 ?side4 A39.out).mono ?_); (case side1 => repeat (first | exact (Kd.R_reads' HO859.out).2.2 | (with_reducible refine Kd.C_alloc ?_ _) | (with_reducible refine Kd.C_drewN ?_ _) | (with_reducible refine Kd.C_drew ?_))); (case side2 => exact (Kd.R_reads' HO859.out).2.1); (case side3 => repeat (first | exact (Kd.R_reads' HO864.out).2.2 | (with_reducible refine Kd.C_alloc ?_ _) | (with_reducible refine Kd.C_drewN ?_ _) | (with_reducible refine Kd.C_drew ?_))); (case side4 => exact (Kd.R_reads' HO864.out).2.1); rintro e w66 ⟨rfl, hb⟩; replace HO848 := Aside0.mk (Kd.Q_below (zQ HO848.out) hb); replace HO853 := Aside0.mk (Kd.R_below (zR HO853.out) hb); replace HO856 := Aside0.mk (Kd.R_below (zR HO856.out) hb); replace HO859 := Aside0.mk (Kd.R_below (zR HO859.out) hb); replace HO864 := Aside0.mk (Kd.R_below (zR HO864.out) hb); replace HO869 := Aside0.mk (Kd.R_below (zR HO869.out) hb); replace BK850 := Aside0.mk (blk_below (zk BK850.out) hb); replace BK861 := Aside0.mk (blk_below (zk BK861.out) hb); replace BK866 := Aside0.mk (blk_below (zk BK866.out) hb); replace HB := Aside0.mk (below_step (zB HB.out) hb); (try clear hb); (try clear hb2); (try clear hk); (try clear hi)))
       go_meet
       case rel => exact ⟨_, (false), (by first | rfl | (simp; done) | (simp [*]; done)), H', ⟨by first | omega | exact Nat.le_refl _⟩, ⟨zR (Kd.R_mono HO853.out (fun _ hk => ⟨hk.1.1.1.1.2, ⟨hk.1.1.2, hk.1.2⟩⟩))⟩, ⟨zQ (Kd.Q_mono HO848.out (fun _ hk => ⟨hk.1.1.1.1.2, ⟨hk.1.1.2, hk.1.2⟩⟩))⟩, ⟨Kd.Q_of_R (zR (Kd.R_mono HO859.out (fun _ hk => ⟨hk.1.1.1.2, ⟨hk.1.1.1.1.2, hk.1.2⟩⟩)))⟩, ⟨Kd.Q_of_R (zR (Kd.R_mono HO864.out (fun _ hk => ⟨hk.1.1.1.2, ⟨hk.1.1.1.1.2, hk.1.2⟩⟩)))⟩, ⟨zk BK850.out⟩, ⟨zk BK861.out⟩, ⟨zk BK866.out⟩, ⟨zB HB.out⟩⟩
     ·replace c40 := Bool.eq_false_iff.mpr c40; subst c40; have H1 : (laws_FnApery.j0 k t849 t851 true t846) = some r := by rw [if_neg (show ¬ (false = true) by decide)] at H; exact H
      exact absurd (HRT.out.symm.trans (laws_FnApery.no_j0 _ _ _ _ _ H1)) (by decide)
   ·replace c31 := Bool.eq_false_iff.mpr c31; subst c31; have H1 : (laws_FnApery.j0 k t849 t851 true t846) = some r := by rw [if_neg (show ¬ (false = true) by decide)] at H; exact H
    exact absurd (HRT.out.symm.trans (laws_FnApery.no_j0 _ _ _ _ _ H1)) (by decide)
  case rest =>
   clear HC10
   try clear c4 hcz14_0 hcz22_0 hcz28_0 hfz14_0 hfz22_0 hfz28_0
   obtain ⟨kq, x64_9, rfl, HA, HJ9, HO_5, HO_851000, HO_862000, HO_867000, BK850, BK861, BK866, HB⟩ := hcut
   cases kq with
   | zero => exact absurd HA.out (by simp [laws_FnApery.j0])
   | succ kj9 =>
    have H := HA.out; clear HA; simp only [laws_FnApery.j0] at H
    by_cases c83 : x64_9 = true
    ·subst c83; have H1 : (some false) = some r := by rw [if_pos rfl] at H; exact H
     exact absurd (HRT.out.symm.trans ((Option.some.inj H1).symm)) (by decide)
    ·replace c83 := Bool.eq_false_iff.mpr c83; subst c83; rw [zF] at H; have H' := Aside0.mk H; clear H; go_wp2; go_loopg [11] kj9 (fun kq v11 w' => ∃ (x11_2 : Int), v11 = .int .i64 x11_2 ∧ Aside0 (laws_FnApery.l0 kq t849 t851 x11_2 t846 = some r) ∧ Aside0 (kq ≤ kj9) ∧ Aside0 (Kd.R (Kd.int .i64) 3 w' w.heap.size (fun k_ => some k_ ≠ ((.slice Ao13 t846.length co13) : Value).ownBlock ∧ some k_ ≠ ((.slice Ao20 t857.length co20) : Value).ownBlock ∧ some k_ ≠ ((.slice Ao25 t862.length co25) : Value).ownBlock) v852 t851) ∧ Aside0 (Kd.Q (Kd.int .i64) 3 w' w.heap.size (fun k_ => some k_ ≠ (v852 : Value).ownBlock ∧ some k_ ≠ ((.slice Ao20 t857.length co20) : Value).ownBlock ∧ some k_ ≠ ((.slice Ao25 t862.length co25) : Value).ownBlock) (.slice Ao13 t846.length co13) t846) ∧ Aside0 (Kd.Q (Kd.int .i64) 3 w' w.heap.size (fun k_ => some k_ ≠ (v852 : Value).ownBlock ∧ some k_ ≠ ((.slice Ao13 t846.length co13) : Value).ownBlock ∧ some k_ ≠ ((.slice Ao25 t862.length co25) : Value).ownBlock) (.slice Ao20 t857.length co20) t857) ∧ Aside0 (Kd.Q (Kd.int .i64) 3 w' w.heap.size (fun k_ => some k_ ≠ (v852 : Value).ownBlock ∧ some k_ ≠ ((.slice Ao13 t846.length co13) : Value).ownBlock ∧ some k_ ≠ ((.slice Ao20 t857.length co20) : Value).ownBlock) (.slice Ao25 t862.length co25) t862) ∧ Aside0 (w'.heap[gb850]? = some (.cells #[(.slice Ao13 t846.length co13)] 26 (0, 0))) ∧ Aside0 (w'.heap[gb861]? = some (.cells #[(.slice Ao20 t857.length co20)] 26 (0, 0))) ∧ Aside0 (w'.heap[gb866]? = some (.cells #[(.slice Ao25 t862.length co25)] 26 (0, 0))) ∧ Aside0 (Below w.heap.size w w'))
     case atStart => exact ⟨(0), (by first | rfl | (simp; done) | (simp [*]; done)), H', ⟨Nat.le_refl _⟩, ⟨zR HO_5.out⟩, ⟨zQ HO_851000.out⟩, ⟨zQ HO_862000.out⟩, ⟨zQ HO_867000.out⟩, ⟨zk BK850.out⟩, ⟨zk BK861.out⟩, ⟨zk BK866.out⟩, ⟨zB HB.out⟩⟩
     case round =>
      clear H'
      try clear c83
      obtain ⟨x11_2, rfl, HA, HK2, HO_5, HO_851000, HO_862000, HO_867000, BK850, BK861, BK866, HB⟩ := hrel
      cases gk with
      | zero => exact absurd HA.out (by simp [laws_FnApery.l0])
      | succ k2 =>
       have H := HA.out; clear HA; simp only [laws_FnApery.l0] at H
       by_cases c84 : x11_2 < (t851.length : Int)
       ·rw [if_pos c84] at H; have c84b0 : decide (x11_2 < (t851.length : Int)) = true := decide_eq_true c84; clear c84; obtain ⟨c85, H⟩ := zi H; have c85b0 : decide (0 ≤ x11_2) = true := decide_eq_true c85; clear c85
        by_cases c86 : t849 = 0
        ·rw [if_pos c86] at H; exact absurd H (by simp)
        ·rw [if_neg c86] at H; have c86b0 : (t849 == 0) = false := beq_eq_false_iff_ne.mpr c86; have c86b1 : (t849 != 0) = true := bne_iff_ne.mpr c86
         by_cases c87 : (Int.tmod (rd t851 x11_2) t849) = x11_2
         ·rw [if_pos c87] at H; have c87b0 : ((Int.tmod (rd t851 x11_2) t849) == x11_2) = true := beq_iff_eq.mpr c87; have c87b1 : ((Int.tmod (rd t851 x11_2) t849) != x11_2) = false := bne_eq_false_iff_eq.mpr c87; clear c87; obtain ⟨t878, A88, H⟩ := zb H
          by_cases c89 : t878 = true
          ·subst c89; rw [zT] at H
           by_cases c90 : (rd t851 x11_2) ≥ t849
           ·rw [if_pos c90] at H; have c90b0 : decide (t849 ≤ (rd t851 x11_2)) = true := decide_eq_true c90; clear c90; obtain ⟨t881, A91, H⟩ := zb H; have HU92 := Aside0.mk H; clear H; obtain ⟨Ao93, co93, eo93⟩ := Kd.R_slice HO_5.out; subst eo93
            try go_wp2
            replace HO_5 := Aside0.mk (Kd.R_drew HO_5.out); replace HO_851000 := Aside0.mk (Kd.Q_drew HO_851000.out); replace HO_862000 := Aside0.mk (Kd.Q_drew HO_862000.out); replace HO_867000 := Aside0.mk (Kd.Q_drew HO_867000.out); replace BK850 := Aside0.mk (blk_drew BK850.out); replace BK861 := Aside0.mk (blk_drew BK861.out); replace BK866 := Aside0.mk (blk_drew BK866.out); replace HB := Aside0.mk (below_drew1 HB.out); have p876 : 0 ≤ (x11_2 : Int) := of_decide_eq_true (by assumption); have q876 : x11_2 < (t851.length : Int) := of_decide_eq_true (by assumption); obtain ⟨ad876, e876, hx876_0⟩ := Kd.at_int (Kd.R_reads' HO_5.out).2.2 x11_2 p876 q876
            cases e876; replace p876 := eq_true p876; replace q876 := eq_true q876; have p877 : 0 ≤ (x11_2 : Int) := of_decide_eq_true (by assumption); have q877 : x11_2 < (t851.length : Int) := of_decide_eq_true (by assumption); obtain ⟨ad877, e877, hx877_0⟩ := Kd.at_int (Kd.R_reads' HO_5.out).2.2 x11_2 p877 q877; obtain rfl : ad876 = ad877 := (by injection e877); replace p877 := eq_true p877; replace q877 := eq_true q877; have p879 : 0 ≤ (x11_2 : Int) := of_decide_eq_true (by assumption); have q879 : x11_2 < (t851.length : Int) := of_decide_eq_true (by assumption); obtain ⟨ad879, e879, hx879_0⟩ := Kd.at_int (Kd.R_reads' HO_5.out).2.2 x11_2 p879 q879; obtain rfl : ad876 = ad879 := (by injection e879); replace p879 := eq_true p879; replace q879 := eq_true q879; have p880 : 0 ≤ (x11_2 : Int) := of_decide_eq_true (by assumption); have q880 : x11_2 < (t851.length : Int) := of_decide_eq_true (by assumption); obtain ⟨ad880, e880, hx880_0⟩ := Kd.at_int (Kd.R_reads' HO_5.out).2.2 x11_2 p880 q880; obtain rfl : ad876 = ad880 := (by injection e880); replace p880 := eq_true p880; replace q880 := eq_true q880; refine start_ (n := 35) (S := fun w' => w'.cell? ⟨gb850, 0, none⟩ = some (.slice Ao13 t846.length co13) ∧ w'.cell? (ad876.add (x11_2).toNat) = some (.int .i64 (rd t851 x11_2)) ∧ w'.cell? (ad876.add (x11_2).toNat) = some (.int .i64 (rd t851 x11_2)) ∧ w'.cell? (ad876.add (x11_2).toNat) = some (.int .i64 (rd t851 x11_2)) ∧ w'.cell? (ad876.add (x11_2).toNat) = some (.int .i64 (rd t851 x11_2))) (ds := []) bA0 (by kernel_rfl) rfl rfl ⟨(blk_cell BK850.out 0).trans rfl, hx876_0, hx877_0, hx879_0, hx880_0⟩ (fun hHeld => ?_); refine with_tabW laws_FnApery.tab13 laws_FnApery.bits13 (fun HT_ HW_ => ?_); generalize wr.drew = w94 at HO_5 HO_851000 HO_862000 HO_867000 BK850 BK861 BK866 HB hx876_0 hx877_0 hx879_0 hx880_0 hHeld ⊢; refine zP 0 (some 71) ?_ bA10 rfl rfl HT_ ?_ ?_ ?_ ?_; rotate_left
            ·intro w'; go_simp; (with_reducible rfl)
            rotate_left
            ·simp only [Act.put, qA, qB, qC, i64_w]; rfl
            refine zP 1 (some 72) ?_ bA18 rfl rfl HT_ ?_ ?_ ?_ ?_; rotate_left
            ·intro w'; go_simp; (with_reducible rfl)
            rotate_left
            ·simp only [Act.put, qA, qB, qC, i64_w]; rfl
            refine zP 2 (some 73) ?_ bA27 rfl rfl HT_ ?_ ?_ ?_ ?_; rotate_left
            ·intro w'; go_simp; (with_reducible rfl)
            rotate_left
            ·simp only [Act.put, qA, qB, qC, i64_w]; rfl
            refine zP 4 (some 75) ?_ bA38 rfl rfl HT_ ?_ ?_ ?_ ?_; rotate_left
            ·intro w'; go_simp; (with_reducible rfl)
            rotate_left
            ·simp only [Act.put, qA, qB, qC, i64_w]; rfl
            refine zP 6 (some 77) ?_ bA39 rfl rfl HT_ ?_ ?_ ?_ ?_; rotate_left
            ·intro w'; go_simp; (with_reducible rfl)
            rotate_left
            ·simp only [Act.put, qA, qB, qC, i64_w]; rfl
            refine zZ 3 (some 74) ?_ bA56 rfl rfl HT_ HW_ ?_ hHeld ?_ ?_ ?_; rotate_left
            ·rintro w' ⟨s0, s1, s2, s3, s4⟩; go_simp; (with_reducible rfl)
            rotate_left
            ·simp only [Act.put, qA, qB, qC, i64_w]; rfl
            refine zP 5 (some 76) ?_ bA64 rfl rfl HT_ ?_ ?_ ?_ ?_; rotate_left
            ·intro w'; go_simp; (with_reducible rfl)
            rotate_left
            ·simp only [Act.put, qA, qB, qC, i64_w]; rfl
            refine zP 7 (some 78) ?_ bA75 rfl rfl HT_ ?_ ?_ ?_ ?_; rotate_left
            ·intro w'; go_simp; (with_reducible rfl)
            rotate_left
            ·simp only [Act.put, qA, qB, qC, i64_w]; rfl
            refine zP 8 (some 79) ?_ bA80 rfl rfl HT_ ?_ ?_ ?_ ?_; rotate_left
            ·intro w'; go_simp; (with_reducible rfl)
            rotate_left
            ·simp only [Act.put, qA, qB, qC, i64_w]; rfl
            refine zP 10 (some 81) ?_ bA88 rfl rfl HT_ ?_ ?_ ?_ ?_; rotate_left
            ·intro w'; go_simp; (with_reducible rfl)
            rotate_left
            ·simp only [Act.put, qA, qB, qC, i64_w]; rfl
            refine zP 11 (some 82) ?_ bA90 rfl rfl HT_ ?_ ?_ ?_ ?_; rotate_left
            ·intro w'; go_simp; (with_reducible rfl)
            rotate_left
            ·simp only [Act.put, qA, qB, qC, i64_w]; rfl
            refine zP 12 (some 83) ?_ bA91 rfl rfl HT_ ?_ ?_ ?_ ?_; rotate_left
            ·intro w'; go_simp; (with_reducible rfl)
            rotate_left
            ·simp only [Act.put, qA, qB, qC, i64_w]; rfl
            refine zZ 9 (some 80) ?_ bA110 rfl rfl HT_ HW_ ?_ hHeld ?_ ?_ ?_; rotate_left
            ·rintro w' ⟨s0, s1, s2, s3, s4⟩; go_simp; (with_reducible rfl)
            rotate_left
            ·simp only [Act.put, qA, qB, qC, i64_w]; rfl
            refine zZ 13 (some 84) ?_ bA115 rfl rfl HT_ HW_ ?_ hHeld ?_ ?_ ?_; rotate_left
            ·rintro w' ⟨s0, s1, s2, s3, s4⟩; go_simp; (with_reducible rfl)
            rotate_left
            ·simp only [Act.put, qA, qB, qC, i64_w]; rfl
            refine one_ (i := 14) (N := some 85) bA119 rfl rfl (one_of HT_.out (by kernel_rfl)) (by decide) (fun K hK => ?_); refine goes_ Try.func14 (by kernel_rfl) rfl #[.agg #[.slice Ao13 t846.length co13], .int .i64 (rd t851 x11_2)] (by rfl) rfl rfl (by (try simp only [za, zc, zn]); first | done | rfl) ?_; (with_reducible refine (spec_Contains.calls k2 _ _ t846 (rd t851 x11_2) true _ ?side1 ?side2 A88.out).mono ?_); (case side1 => repeat (first | exact (Kd.Q_reads' HO_851000.out).2.2 | (with_reducible refine Kd.C_alloc ?_ _) | (with_reducible refine Kd.C_drewN ?_ _) | (with_reducible refine Kd.C_drew ?_))); (case side2 => exact (Kd.Q_reads' HO_851000.out).2.1); rintro e w95 ⟨rfl, hb⟩; have HS1_ := (hb.cell (World.block_lt_of_cell? _ _ (hHeld.2.1))).trans (hHeld.2.1); have HS2_ := (hb.cell (World.block_lt_of_cell? _ _ (hHeld.2.2.1))).trans (hHeld.2.2.1); have HS3_ := (hb.cell (World.block_lt_of_cell? _ _ (hHeld.2.2.2.1))).trans (hHeld.2.2.2.1); have HS4_ := (hb.cell (World.block_lt_of_cell? _ _ (hHeld.2.2.2.2))).trans (hHeld.2.2.2.2); refine ⟨_, rfl, ?_⟩; replace HO_5 := Aside0.mk (Kd.R_below (zR HO_5.out) hb); replace HO_851000 := Aside0.mk (Kd.Q_below (zQ HO_851000.out) hb); replace HO_862000 := Aside0.mk (Kd.Q_below (zQ HO_862000.out) hb); replace HO_867000 := Aside0.mk (Kd.Q_below (zQ HO_867000.out) hb); replace BK850 := Aside0.mk (blk_below (zk BK850.out) hb); replace BK861 := Aside0.mk (blk_below (zk BK861.out) hb); replace BK866 := Aside0.mk (blk_below (zk BK866.out) hb); replace HB := Aside0.mk (below_step (zB HB.out) hb); (try clear hb); (try clear hb2); (try clear hk); (try clear hi); refine hK.out _ _ ⟨(blk_cell BK850.out 0).trans rfl, HS1_, HS2_, HS3_, HS4_⟩ (fun hHeld => ?_); clear hK K; refine norm_ (a' := ?_) ?_ ?_; rotate_left
            ·show Act.put _ (some 85) _ = _; simp only [Act.put, qA, qB, qC, i64_w]; rfl
            refine zP 15 (some 86) ?_ bA123 rfl rfl HT_ ?_ ?_ ?_ ?_; rotate_left
            ·intro w'; go_simp; (with_reducible rfl)
            rotate_left
            ·simp only [Act.put, qA, qB, qC, i64_w]; rfl
            refine zP 16 (some 87) ?_ bA127 rfl rfl HT_ ?_ ?_ ?_ ?_; rotate_left
            ·intro w'; go_simp; (with_reducible rfl)
            rotate_left
            ·simp only [Act.put, qA, qB, qC, i64_w]; rfl
            refine zP 17 (some 88) ?_ bA131 rfl rfl HT_ ?_ ?_ ?_ ?_; rotate_left
            ·intro w'; go_simp; (with_reducible rfl)
            rotate_left
            ·simp only [Act.put, qA, qB, qC, i64_w]; rfl
            refine zP 18 (some 89) ?_ bA135 rfl rfl HT_ ?_ ?_ ?_ ?_; rotate_left
            ·intro w'; go_simp; (with_reducible rfl)
            rotate_left
            ·simp only [Act.put, qA, qB, qC, i64_w]; rfl
            refine zP 19 (some 90) ?_ bA139 rfl rfl HT_ ?_ ?_ ?_ ?_; rotate_left
            ·intro w'; go_simp; (with_reducible rfl)
            rotate_left
            ·simp only [Act.put, qA, qB, qC, i64_w]; rfl
            refine zP 20 (some 91) ?_ bA143 rfl rfl HT_ ?_ ?_ ?_ ?_; rotate_left
            ·intro w'; go_simp; (with_reducible rfl)
            rotate_left
            ·simp only [Act.put, qA, qB, qC, i64_w]; rfl
            refine zP 22 (some 93) ?_ bA146 rfl rfl HT_ ?_ ?_ ?_ ?_; rotate_left
            ·intro w'; go_simp; (with_reducible rfl)
            rotate_left
            ·simp only [Act.put, qA, qB, qC, i64_w]; rfl
            refine zZ 21 (some 92) ?_ bA152 rfl rfl HT_ HW_ ?_ hHeld ?_ ?_ ?_; rotate_left
            ·rintro w' ⟨s0, s1, s2, s3, s4⟩; go_simp; (with_reducible rfl)
            rotate_left
            ·simp only [Act.put, qA, qB, qC, i64_w]; rfl
            refine zP 23 (some 94) ?_ bA156 rfl rfl HT_ ?_ ?_ ?_ ?_; rotate_left
            ·intro w'; go_simp; (with_reducible rfl)
            rotate_left
            ·simp only [Act.put, qA, qB, qC, i64_w]; rfl
            refine zP 24 (some 95) ?_ bA158 rfl rfl HT_ ?_ ?_ ?_ ?_; rotate_left
            ·intro w'; go_simp; (with_reducible rfl)
            rotate_left
            ·simp only [Act.put, qA, qB, qC, i64_w]; rfl
            refine zp 26 (some 97) ?_ #[true, true, true, true, true, true, true, true, true, true, true, true, true, true, true, true, true, true, true, true, true, true, true, true, true, false, true, false, false, false, false, false, false, false, false] rfl rfl HT_ (by kernel_rfl) (fun _ _ _ h => h) (by rfl) ?_ ?_ ?_ ?_; rotate_left
            ·intro w'; go_simp; (with_reducible rfl)
            rotate_left
            ·simp only [Act.put, qA, qB, qC, i64_w]; rfl
            refine zp 27 (some 98) ?_ #[true, true, true, true, true, true, true, true, true, true, true, true, true, true, true, true, true, true, true, true, true, true, true, true, true, false, true, true, false, false, false, false, false, false, false] rfl rfl HT_ (by kernel_rfl) (fun _ _ _ h => h) (by rfl) ?_ ?_ ?_ ?_; rotate_left
            ·intro w'; go_simp; (with_reducible rfl)
            rotate_left
            ·simp only [Act.put, qA, qB, qC, i64_w]; rfl
            refine zp 28 (some 99) ?_ #[true, true, true, true, true, true, true, true, true, true, true, true, true, true, true, true, true, true, true, true, true, true, true, true, true, false, true, true, true, false, false, false, false, false, false] rfl rfl HT_ (by kernel_rfl) (fun _ _ _ h => h) (by rfl) ?_ ?_ ?_ ?_; rotate_left
            ·intro w'; go_simp; (with_reducible rfl)
            rotate_left
            ·simp only [Act.put, qA, qB, qC, i64_w]; rfl
            refine zp 30 (some 101) ?_ #[true, true, true, true, true, true, true, true, true, true, true, true, true, true, true, true, true, true, true, true, true, true, true, true, true, false, true, true, true, false, true, false, false, false, false] rfl rfl HT_ (by kernel_rfl) (fun _ _ _ h => h) (by rfl) ?_ ?_ ?_ ?_; rotate_left
            ·intro w'; go_simp; (with_reducible rfl)
            rotate_left
            ·simp only [Act.put, qA, qB, qC, i64_w]; rfl
            refine zt 25 (some 96) ?_ #[true, true, true, true, true, true, true, true, true, true, true, true, true, true, true, true, true, true, true, true, true, true, true, true, true, true, true, true, true, false, true, false, false, false, false] rfl rfl HT_ HW_ (by kernel_rfl) (fun _ _ _ h => h) (by rfl) ?_ hHeld ?_ ?_ ?_; rotate_left
            ·rintro w' ⟨s0, s1, s2, s3, s4⟩; go_simp; (with_reducible rfl)
            rotate_left
            ·simp only [Act.put, qA, qB, qC, i64_w]; rfl
            refine zZ 29 (some 100) ?_ bA170 rfl rfl HT_ HW_ ?_ hHeld ?_ ?_ ?_; rotate_left
            ·rintro w' ⟨s0, s1, s2, s3, s4⟩; go_simp; (with_reducible rfl)
            rotate_left
            ·simp only [Act.put, qA, qB, qC, i64_w]; rfl
            refine zP 31 (some 102) ?_ bA172 rfl rfl HT_ ?_ ?_ ?_ ?_; rotate_left
            ·intro w'; go_simp; (with_reducible rfl)
            rotate_left
            ·simp only [Act.put, qA, qB, qC, i64_w]; rfl
            refine one_ (i := 32) (N := some 103) bA174 rfl rfl (one_of HT_.out (by kernel_rfl)) (by decide) (fun K hK => ?_); refine goes_ Try.func14 (by kernel_rfl) rfl #[.agg #[.slice Ao13 t846.length co13], .int .i64 (wrap64 ((rd t851 x11_2) - t849))] (by rfl) rfl rfl (by (try simp only [za, zc, zn]); first | done | rfl) ?_; (with_reducible refine (spec_Contains.calls k2 _ _ t846 (wrap64 ((rd t851 x11_2) - t849)) t881 _ ?side1 ?side2 A91.out).mono ?_); (case side1 => repeat (first | exact (Kd.Q_reads' HO_851000.out).2.2 | (with_reducible refine Kd.C_alloc ?_ _) | (with_reducible refine Kd.C_drewN ?_ _) | (with_reducible refine Kd.C_drew ?_))); (case side2 => exact (Kd.Q_reads' HO_851000.out).2.1); rintro e w96 ⟨rfl, hb⟩; have HS1_ := (hb.cell (World.block_lt_of_cell? _ _ (hHeld.2.1))).trans (hHeld.2.1); have HS2_ := (hb.cell (World.block_lt_of_cell? _ _ (hHeld.2.2.1))).trans (hHeld.2.2.1); have HS3_ := (hb.cell (World.block_lt_of_cell? _ _ (hHeld.2.2.2.1))).trans (hHeld.2.2.2.1); have HS4_ := (hb.cell (World.block_lt_of_cell? _ _ (hHeld.2.2.2.2))).trans (hHeld.2.2.2.2); refine ⟨_, rfl, ?_⟩; replace HO_5 := Aside0.mk (Kd.R_below (zR HO_5.out) hb); replace HO_851000 := Aside0.mk (Kd.Q_below (zQ HO_851000.out) hb); replace HO_862000 := Aside0.mk (Kd.Q_below (zQ HO_862000.out) hb); replace HO_867000 := Aside0.mk (Kd.Q_below (zQ HO_867000.out) hb); replace BK850 := Aside0.mk (blk_below (zk BK850.out) hb); replace BK861 := Aside0.mk (blk_below (zk BK861.out) hb); replace BK866 := Aside0.mk (blk_below (zk BK866.out) hb); replace HB := Aside0.mk (below_step (zB HB.out) hb); (try clear hb); (try clear hb2); (try clear hk); (try clear hi); refine hK.out _ _ ⟨(blk_cell BK850.out 0).trans rfl, HS1_, HS2_, HS3_, HS4_⟩ (fun hHeld => ?_); clear hK K; refine norm_ (a' := ?_) ?_ ?_; rotate_left
            ·show Act.put _ (some 103) _ = _; simp only [Act.put, qA, qB, qC, i64_w]; rfl
            refine zP 33 (some 104) ?_ bA176 rfl rfl HT_ ?_ ?_ ?_ ?_; rotate_left
            ·intro w'; go_simp; (with_reducible rfl)
            rotate_left
            ·simp only [Act.put, qA, qB, qC, i64_w]; rfl
            refine zP 34 (some 105) ?_ bA177 rfl rfl HT_ ?_ ?_ ?_ ?_; rotate_left
            ·intro w'; go_simp; (with_reducible rfl)
            rotate_left
            ·simp only [Act.put, qA, qB, qC, i64_w]; rfl
            refine done_ (done_of HT_.out (by kernel_rfl)) ?_; go_upto_if 105 with (fail)
            have H := HU92.out; clear HU92
            by_cases c97 : t881 = true
            ·subst c97; have H1 : (some false) = some r := by rw [if_pos rfl] at H; exact H
             exact absurd (HRT.out.symm.trans ((Option.some.inj H1).symm)) (by decide)
            ·replace c97 := Bool.eq_false_iff.mpr c97; subst c97; rw [zF] at H; have H' := Aside0.mk H; clear H; go_wp2
             go_roundg k2
             case measure => have := HJ9.out; have := HK2.out; omega
             case rel => exact ⟨(wrap64 (x11_2 + 1)), (by first | rfl | (simp; done) | (simp [*]; done)), H', ⟨by have := HJ9.out; have := HK2.out; omega⟩, ⟨zR HO_5.out⟩, ⟨zQ HO_851000.out⟩, ⟨zQ HO_862000.out⟩, ⟨zQ HO_867000.out⟩, ⟨zk BK850.out⟩, ⟨zk BK861.out⟩, ⟨zk BK866.out⟩, ⟨zB HB.out⟩⟩
           ·rw [if_neg c90] at H; have c90b0 : decide (t849 ≤ (rd t851 x11_2)) = false := decide_eq_false c90; clear c90; have H' := Aside0.mk H; clear H; obtain ⟨Ao98, co98, eo98⟩ := Kd.R_slice HO_5.out; subst eo98
            try go_wp2
            replace HO_5 := Aside0.mk (Kd.R_drew HO_5.out); replace HO_851000 := Aside0.mk (Kd.Q_drew HO_851000.out); replace HO_862000 := Aside0.mk (Kd.Q_drew HO_862000.out); replace HO_867000 := Aside0.mk (Kd.Q_drew HO_867000.out); replace BK850 := Aside0.mk (blk_drew BK850.out); replace BK861 := Aside0.mk (blk_drew BK861.out); replace BK866 := Aside0.mk (blk_drew BK866.out); replace HB := Aside0.mk (below_drew1 HB.out); have p876 : 0 ≤ (x11_2 : Int) := of_decide_eq_true (by assumption); have q876 : x11_2 < (t851.length : Int) := of_decide_eq_true (by assumption); obtain ⟨ad876, e876, hx876_0⟩ := Kd.at_int (Kd.R_reads' HO_5.out).2.2 x11_2 p876 q876
            cases e876; replace p876 := eq_true p876; replace q876 := eq_true q876; have p877 : 0 ≤ (x11_2 : Int) := of_decide_eq_true (by assumption); have q877 : x11_2 < (t851.length : Int) := of_decide_eq_true (by assumption); obtain ⟨ad877, e877, hx877_0⟩ := Kd.at_int (Kd.R_reads' HO_5.out).2.2 x11_2 p877 q877; obtain rfl : ad876 = ad877 := (by injection e877); replace p877 := eq_true p877; replace q877 := eq_true q877; have p879 : 0 ≤ (x11_2 : Int) := of_decide_eq_true (by assumption); have q879 : x11_2 < (t851.length : Int) := of_decide_eq_true (by assumption); obtain ⟨ad879, e879, hx879_0⟩ := Kd.at_int (Kd.R_reads' HO_5.out).2.2 x11_2 p879 q879; obtain rfl : ad876 = ad879 := (by injection e879); replace p879 := eq_true p879; replace q879 := eq_true q879; refine start_ (n := 35) (S := fun w' => w'.cell? ⟨gb850, 0, none⟩ = some (.slice Ao13 t846.length co13) ∧ w'.cell? (ad876.add (x11_2).toNat) = some (.int .i64 (rd t851 x11_2)) ∧ w'.cell? (ad876.add (x11_2).toNat) = some (.int .i64 (rd t851 x11_2)) ∧ w'.cell? (ad876.add (x11_2).toNat) = some (.int .i64 (rd t851 x11_2))) (ds := []) bA0 (by kernel_rfl) rfl rfl ⟨(blk_cell BK850.out 0).trans rfl, hx876_0, hx877_0, hx879_0⟩ (fun hHeld => ?_); refine with_tabW laws_FnApery.tab13 laws_FnApery.bits13 (fun HT_ HW_ => ?_); generalize wr.drew = w99 at HO_5 HO_851000 HO_862000 HO_867000 BK850 BK861 BK866 HB hx876_0 hx877_0 hx879_0 hHeld ⊢; refine zP 0 (some 71) ?_ bA10 rfl rfl HT_ ?_ ?_ ?_ ?_; rotate_left
            ·intro w'; go_simp; (with_reducible rfl)
            rotate_left
            ·simp only [Act.put, qA, qB, qC, i64_w]; rfl
            refine zP 1 (some 72) ?_ bA18 rfl rfl HT_ ?_ ?_ ?_ ?_; rotate_left
            ·intro w'; go_simp; (with_reducible rfl)
            rotate_left
            ·simp only [Act.put, qA, qB, qC, i64_w]; rfl
            refine zP 2 (some 73) ?_ bA27 rfl rfl HT_ ?_ ?_ ?_ ?_; rotate_left
            ·intro w'; go_simp; (with_reducible rfl)
            rotate_left
            ·simp only [Act.put, qA, qB, qC, i64_w]; rfl
            refine zP 4 (some 75) ?_ bA38 rfl rfl HT_ ?_ ?_ ?_ ?_; rotate_left
            ·intro w'; go_simp; (with_reducible rfl)
            rotate_left
            ·simp only [Act.put, qA, qB, qC, i64_w]; rfl
            refine zP 6 (some 77) ?_ bA39 rfl rfl HT_ ?_ ?_ ?_ ?_; rotate_left
            ·intro w'; go_simp; (with_reducible rfl)
            rotate_left
            ·simp only [Act.put, qA, qB, qC, i64_w]; rfl
            refine zZ 3 (some 74) ?_ bA56 rfl rfl HT_ HW_ ?_ hHeld ?_ ?_ ?_; rotate_left
            ·rintro w' ⟨s0, s1, s2, s3⟩; go_simp; (with_reducible rfl)
            rotate_left
            ·simp only [Act.put, qA, qB, qC, i64_w]; rfl
            refine zP 5 (some 76) ?_ bA64 rfl rfl HT_ ?_ ?_ ?_ ?_; rotate_left
            ·intro w'; go_simp; (with_reducible rfl)
            rotate_left
            ·simp only [Act.put, qA, qB, qC, i64_w]; rfl
            refine zP 7 (some 78) ?_ bA75 rfl rfl HT_ ?_ ?_ ?_ ?_; rotate_left
            ·intro w'; go_simp; (with_reducible rfl)
            rotate_left
            ·simp only [Act.put, qA, qB, qC, i64_w]; rfl
            refine zP 8 (some 79) ?_ bA80 rfl rfl HT_ ?_ ?_ ?_ ?_; rotate_left
            ·intro w'; go_simp; (with_reducible rfl)
            rotate_left
            ·simp only [Act.put, qA, qB, qC, i64_w]; rfl
            refine zP 10 (some 81) ?_ bA88 rfl rfl HT_ ?_ ?_ ?_ ?_; rotate_left
            ·intro w'; go_simp; (with_reducible rfl)
            rotate_left
            ·simp only [Act.put, qA, qB, qC, i64_w]; rfl
            refine zP 11 (some 82) ?_ bA90 rfl rfl HT_ ?_ ?_ ?_ ?_; rotate_left
            ·intro w'; go_simp; (with_reducible rfl)
            rotate_left
            ·simp only [Act.put, qA, qB, qC, i64_w]; rfl
            refine zP 12 (some 83) ?_ bA91 rfl rfl HT_ ?_ ?_ ?_ ?_; rotate_left
            ·intro w'; go_simp; (with_reducible rfl)
            rotate_left
            ·simp only [Act.put, qA, qB, qC, i64_w]; rfl
            refine zZ 9 (some 80) ?_ bA110 rfl rfl HT_ HW_ ?_ hHeld ?_ ?_ ?_; rotate_left
            ·rintro w' ⟨s0, s1, s2, s3⟩; go_simp; (with_reducible rfl)
            rotate_left
            ·simp only [Act.put, qA, qB, qC, i64_w]; rfl
            refine zZ 13 (some 84) ?_ bA115 rfl rfl HT_ HW_ ?_ hHeld ?_ ?_ ?_; rotate_left
            ·rintro w' ⟨s0, s1, s2, s3⟩; go_simp; (with_reducible rfl)
            rotate_left
            ·simp only [Act.put, qA, qB, qC, i64_w]; rfl
            refine one_ (i := 14) (N := some 85) bA119 rfl rfl (one_of HT_.out (by kernel_rfl)) (by decide) (fun K hK => ?_); refine goes_ Try.func14 (by kernel_rfl) rfl #[.agg #[.slice Ao13 t846.length co13], .int .i64 (rd t851 x11_2)] (by rfl) rfl rfl (by (try simp only [za, zc, zn]); first | done | rfl) ?_; (with_reducible refine (spec_Contains.calls k2 _ _ t846 (rd t851 x11_2) true _ ?side1 ?side2 A88.out).mono ?_); (case side1 => repeat (first | exact (Kd.Q_reads' HO_851000.out).2.2 | (with_reducible refine Kd.C_alloc ?_ _) | (with_reducible refine Kd.C_drewN ?_ _) | (with_reducible refine Kd.C_drew ?_))); (case side2 => exact (Kd.Q_reads' HO_851000.out).2.1); rintro e w100 ⟨rfl, hb⟩; have HS1_ := (hb.cell (World.block_lt_of_cell? _ _ (hHeld.2.1))).trans (hHeld.2.1); have HS2_ := (hb.cell (World.block_lt_of_cell? _ _ (hHeld.2.2.1))).trans (hHeld.2.2.1); have HS3_ := (hb.cell (World.block_lt_of_cell? _ _ (hHeld.2.2.2))).trans (hHeld.2.2.2); refine ⟨_, rfl, ?_⟩; replace HO_5 := Aside0.mk (Kd.R_below (zR HO_5.out) hb); replace HO_851000 := Aside0.mk (Kd.Q_below (zQ HO_851000.out) hb); replace HO_862000 := Aside0.mk (Kd.Q_below (zQ HO_862000.out) hb); replace HO_867000 := Aside0.mk (Kd.Q_below (zQ HO_867000.out) hb); replace BK850 := Aside0.mk (blk_below (zk BK850.out) hb); replace BK861 := Aside0.mk (blk_below (zk BK861.out) hb); replace BK866 := Aside0.mk (blk_below (zk BK866.out) hb); replace HB := Aside0.mk (below_step (zB HB.out) hb); (try clear hb); (try clear hb2); (try clear hk); (try clear hi); refine hK.out _ _ ⟨(blk_cell BK850.out 0).trans rfl, HS1_, HS2_, HS3_⟩ (fun hHeld => ?_); clear hK K; refine norm_ (a' := ?_) ?_ ?_; rotate_left
            ·show Act.put _ (some 85) _ = _; simp only [Act.put, qA, qB, qC, i64_w]; rfl
            refine zP 15 (some 86) ?_ bA123 rfl rfl HT_ ?_ ?_ ?_ ?_; rotate_left
            ·intro w'; go_simp; (with_reducible rfl)
            rotate_left
            ·simp only [Act.put, qA, qB, qC, i64_w]; rfl
            refine zP 16 (some 87) ?_ bA127 rfl rfl HT_ ?_ ?_ ?_ ?_; rotate_left
            ·intro w'; go_simp; (with_reducible rfl)
            rotate_left
            ·simp only [Act.put, qA, qB, qC, i64_w]; rfl
            refine zP 17 (some 88) ?_ bA131 rfl rfl HT_ ?_ ?_ ?_ ?_; rotate_left
            ·intro w'; go_simp; (with_reducible rfl)
            rotate_left
            ·simp only [Act.put, qA, qB, qC, i64_w]; rfl
            refine zP 18 (some 89) ?_ bA135 rfl rfl HT_ ?_ ?_ ?_ ?_; rotate_left
            ·intro w'; go_simp; (with_reducible rfl)
            rotate_left
            ·simp only [Act.put, qA, qB, qC, i64_w]; rfl
            refine zP 19 (some 90) ?_ bA139 rfl rfl HT_ ?_ ?_ ?_ ?_; rotate_left
            ·intro w'; go_simp; (with_reducible rfl)
            rotate_left
            ·simp only [Act.put, qA, qB, qC, i64_w]; rfl
            refine zP 20 (some 91) ?_ bA143 rfl rfl HT_ ?_ ?_ ?_ ?_; rotate_left
            ·intro w'; go_simp; (with_reducible rfl)
            rotate_left
            ·simp only [Act.put, qA, qB, qC, i64_w]; rfl
            refine zP 22 (some 93) ?_ bA146 rfl rfl HT_ ?_ ?_ ?_ ?_; rotate_left
            ·intro w'; go_simp; (with_reducible rfl)
            rotate_left
            ·simp only [Act.put, qA, qB, qC, i64_w]; rfl
            refine zZ 21 (some 92) ?_ bA152 rfl rfl HT_ HW_ ?_ hHeld ?_ ?_ ?_; rotate_left
            ·rintro w' ⟨s0, s1, s2, s3⟩; go_simp; (with_reducible rfl)
            rotate_left
            ·simp only [Act.put, qA, qB, qC, i64_w]; rfl
            refine zP 23 (some 94) ?_ bA156 rfl rfl HT_ ?_ ?_ ?_ ?_; rotate_left
            ·intro w'; go_simp; (with_reducible rfl)
            rotate_left
            ·simp only [Act.put, qA, qB, qC, i64_w]; rfl
            refine zP 24 (some 95) ?_ bA158 rfl rfl HT_ ?_ ?_ ?_ ?_; rotate_left
            ·intro w'; go_simp; (with_reducible rfl)
            rotate_left
            ·simp only [Act.put, qA, qB, qC, i64_w]; rfl
            refine zU 25 (some 96) bA160 rfl rfl HT_ ?_ ?_ ?_; rotate_left
            ·simp only [Act.put, qA, qB, qC, i64_w]; rfl
            refine zU 26 (some 97) bA162 rfl rfl HT_ ?_ ?_ ?_; rotate_left
            ·simp only [Act.put, qA, qB, qC, i64_w]; rfl
            refine zU 27 (some 98) bA164 rfl rfl HT_ ?_ ?_ ?_; rotate_left
            ·simp only [Act.put, qA, qB, qC, i64_w]; rfl
            refine zU 28 (some 99) bA166 rfl rfl HT_ ?_ ?_ ?_; rotate_left
            ·simp only [Act.put, qA, qB, qC, i64_w]; rfl
            refine zU 29 (some 100) bA168 rfl rfl HT_ ?_ ?_ ?_; rotate_left
            ·simp only [Act.put, qA, qB, qC, i64_w]; rfl
            refine zU 30 (some 101) bA170 rfl rfl HT_ ?_ ?_ ?_; rotate_left
            ·simp only [Act.put, qA, qB, qC, i64_w]; rfl
            refine zU 31 (some 102) bA172 rfl rfl HT_ ?_ ?_ ?_; rotate_left
            ·simp only [Act.put, qA, qB, qC, i64_w]; rfl
            refine zU 32 (some 103) bA174 rfl rfl HT_ ?_ ?_ ?_; rotate_left
            ·simp only [Act.put, qA, qB, qC, i64_w]; rfl
            refine zP 33 (some 104) ?_ bA176 rfl rfl HT_ ?_ ?_ ?_ ?_; rotate_left
            ·intro w'; go_simp; (with_reducible rfl)
            rotate_left
            ·simp only [Act.put, qA, qB, qC, i64_w]; rfl
            refine zP 34 (some 105) ?_ bA177 rfl rfl HT_ ?_ ?_ ?_ ?_; rotate_left
            ·intro w'; go_simp; (with_reducible rfl)
            rotate_left
            ·simp only [Act.put, qA, qB, qC, i64_w]; rfl
            refine done_ (done_of HT_.out (by kernel_rfl)) ?_
            try go_wp2
            go_roundg k2
            case measure => have := HJ9.out; have := HK2.out; omega
            case rel => exact ⟨(wrap64 (x11_2 + 1)), (by first | rfl | (simp; done) | (simp [*]; done)), H', ⟨by have := HJ9.out; have := HK2.out; omega⟩, ⟨zR HO_5.out⟩, ⟨zQ HO_851000.out⟩, ⟨zQ HO_862000.out⟩, ⟨zQ HO_867000.out⟩, ⟨zk BK850.out⟩, ⟨zk BK861.out⟩, ⟨zk BK866.out⟩, ⟨zB HB.out⟩⟩
          ·replace c89 := Bool.eq_false_iff.mpr c89; subst c89; have H1 : (some false) = some r := by rw [if_neg (show ¬ (false = true) by decide)] at H; exact H
           exact absurd (HRT.out.symm.trans ((Option.some.inj H1).symm)) (by decide)
         ·rw [if_neg c87] at H; have c87b0 : ((Int.tmod (rd t851 x11_2) t849) == x11_2) = false := beq_eq_false_iff_ne.mpr c87; have c87b1 : ((Int.tmod (rd t851 x11_2) t849) != x11_2) = true := bne_iff_ne.mpr c87; obtain rfl := Option.some.inj H; obtain ⟨Ao104, co104, eo104⟩ := Kd.R_slice HO_5.out; subst eo104
          try go_wp2
          replace HO_5 := Aside0.mk (Kd.R_drew HO_5.out); replace HO_851000 := Aside0.mk (Kd.Q_drew HO_851000.out); replace HO_862000 := Aside0.mk (Kd.Q_drew HO_862000.out); replace HO_867000 := Aside0.mk (Kd.Q_drew HO_867000.out); replace BK850 := Aside0.mk (blk_drew BK850.out); replace BK861 := Aside0.mk (blk_drew BK861.out); replace BK866 := Aside0.mk (blk_drew BK866.out); replace HB := Aside0.mk (below_drew1 HB.out); have p876 : 0 ≤ (x11_2 : Int) := of_decide_eq_true (by assumption); have q876 : x11_2 < (t851.length : Int) := of_decide_eq_true (by assumption); obtain ⟨ad876, e876, hx876_0⟩ := Kd.at_int (Kd.R_reads' HO_5.out).2.2 x11_2 p876 q876
          cases e876; replace p876 := eq_true p876; replace q876 := eq_true q876; refine start_ (n := 35) (S := fun w' => w'.cell? (ad876.add (x11_2).toNat) = some (.int .i64 (rd t851 x11_2))) (ds := []) bA0 (by kernel_rfl) rfl rfl (hx876_0) (fun hHeld => ?_); refine with_tabW laws_FnApery.tab13 laws_FnApery.bits13 (fun HT_ HW_ => ?_); generalize wr.drew = w105 at HO_5 HO_851000 HO_862000 HO_867000 BK850 BK861 BK866 HB hx876_0 hHeld ⊢; refine zP 0 (some 71) ?_ bA10 rfl rfl HT_ ?_ ?_ ?_ ?_; rotate_left
          ·intro w'; go_simp; (with_reducible rfl)
          rotate_left
          ·simp only [Act.put, qA, qB, qC, i64_w]; rfl
          refine zP 1 (some 72) ?_ bA18 rfl rfl HT_ ?_ ?_ ?_ ?_; rotate_left
          ·intro w'; go_simp; (with_reducible rfl)
          rotate_left
          ·simp only [Act.put, qA, qB, qC, i64_w]; rfl
          refine zP 2 (some 73) ?_ bA27 rfl rfl HT_ ?_ ?_ ?_ ?_; rotate_left
          ·intro w'; go_simp; (with_reducible rfl)
          rotate_left
          ·simp only [Act.put, qA, qB, qC, i64_w]; rfl
          refine zP 4 (some 75) ?_ bA38 rfl rfl HT_ ?_ ?_ ?_ ?_; rotate_left
          ·intro w'; go_simp; (with_reducible rfl)
          rotate_left
          ·simp only [Act.put, qA, qB, qC, i64_w]; rfl
          refine zP 6 (some 77) ?_ bA39 rfl rfl HT_ ?_ ?_ ?_ ?_; rotate_left
          ·intro w'; go_simp; (with_reducible rfl)
          rotate_left
          ·simp only [Act.put, qA, qB, qC, i64_w]; rfl
          refine zZ 3 (some 74) ?_ bA56 rfl rfl HT_ HW_ ?_ hHeld ?_ ?_ ?_; rotate_left
          ·intro w' s0; go_simp; (with_reducible rfl)
          rotate_left
          ·simp only [Act.put, qA, qB, qC, i64_w]; rfl
          refine zP 5 (some 76) ?_ bA64 rfl rfl HT_ ?_ ?_ ?_ ?_; rotate_left
          ·intro w'; go_simp; (with_reducible rfl)
          rotate_left
          ·simp only [Act.put, qA, qB, qC, i64_w]; rfl
          refine zP 7 (some 78) ?_ bA75 rfl rfl HT_ ?_ ?_ ?_ ?_; rotate_left
          ·intro w'; go_simp; (with_reducible rfl)
          rotate_left
          ·simp only [Act.put, qA, qB, qC, i64_w]; rfl
          refine zP 8 (some 79) ?_ bA80 rfl rfl HT_ ?_ ?_ ?_ ?_; rotate_left
          ·intro w'; go_simp; (with_reducible rfl)
          rotate_left
          ·simp only [Act.put, qA, qB, qC, i64_w]; rfl
          refine zu 9 (some 80) #[true, true, true, true, true, true, true, true, true, true, false, false, false, false, false, false, false, false, false, false, false, false, false, false, false, false, false, false, false, false, false, false, false, false, false] rfl rfl HT_ (by kernel_rfl) (fun _ _ _ h => h) (by rfl) ?_ ?_ ?_; rotate_left
          ·simp only [Act.put, qA, qB, qC, i64_w]; rfl
          refine zu 10 (some 81) #[true, true, true, true, true, true, true, true, true, true, true, false, false, false, false, false, false, false, false, false, false, false, false, false, false, false, false, false, false, false, false, false, false, false, false] rfl rfl HT_ (by kernel_rfl) (fun _ _ _ h => h) (by rfl) ?_ ?_ ?_; rotate_left
          ·simp only [Act.put, qA, qB, qC, i64_w]; rfl
          refine zu 11 (some 82) #[true, true, true, true, true, true, true, true, true, true, true, true, false, false, false, false, false, false, false, false, false, false, false, false, false, false, false, false, false, false, false, false, false, false, false] rfl rfl HT_ (by kernel_rfl) (fun _ _ _ h => h) (by rfl) ?_ ?_ ?_; rotate_left
          ·simp only [Act.put, qA, qB, qC, i64_w]; rfl
          refine zU 12 (some 83) bA110 rfl rfl HT_ ?_ ?_ ?_; rotate_left
          ·simp only [Act.put, qA, qB, qC, i64_w]; rfl
          refine zU 13 (some 84) bA115 rfl rfl HT_ ?_ ?_ ?_; rotate_left
          ·simp only [Act.put, qA, qB, qC, i64_w]; rfl
          refine zU 14 (some 85) bA119 rfl rfl HT_ ?_ ?_ ?_; rotate_left
          ·simp only [Act.put, qA, qB, qC, i64_w]; rfl
          refine zU 15 (some 86) bA123 rfl rfl HT_ ?_ ?_ ?_; rotate_left
          ·simp only [Act.put, qA, qB, qC, i64_w]; rfl
          refine zP 16 (some 87) ?_ bA127 rfl rfl HT_ ?_ ?_ ?_ ?_; rotate_left
          ·intro w'; go_simp; (with_reducible rfl)
          rotate_left
          ·simp only [Act.put, qA, qB, qC, i64_w]; rfl
          refine zP 17 (some 88) ?_ bA131 rfl rfl HT_ ?_ ?_ ?_ ?_; rotate_left
          ·intro w'; go_simp; (with_reducible rfl)
          rotate_left
          ·simp only [Act.put, qA, qB, qC, i64_w]; rfl
          refine zU 18 (some 89) bA135 rfl rfl HT_ ?_ ?_ ?_; rotate_left
          ·simp only [Act.put, qA, qB, qC, i64_w]; rfl
          refine zU 19 (some 90) bA139 rfl rfl HT_ ?_ ?_ ?_; rotate_left
          ·simp only [Act.put, qA, qB, qC, i64_w]; rfl
          refine zU 20 (some 91) bA143 rfl rfl HT_ ?_ ?_ ?_; rotate_left
          ·simp only [Act.put, qA, qB, qC, i64_w]; rfl
          refine zU 21 (some 92) bA148 rfl rfl HT_ ?_ ?_ ?_; rotate_left
          ·simp only [Act.put, qA, qB, qC, i64_w]; rfl
          refine zU 22 (some 93) bA152 rfl rfl HT_ ?_ ?_ ?_; rotate_left
          ·simp only [Act.put, qA, qB, qC, i64_w]; rfl
          refine zU 23 (some 94) bA156 rfl rfl HT_ ?_ ?_ ?_; rotate_left
          ·simp only [Act.put, qA, qB, qC, i64_w]; rfl
          refine zU 24 (some 95) bA158 rfl rfl HT_ ?_ ?_ ?_; rotate_left
          ·simp only [Act.put, qA, qB, qC, i64_w]; rfl
          refine zU 25 (some 96) bA160 rfl rfl HT_ ?_ ?_ ?_; rotate_left
          ·simp only [Act.put, qA, qB, qC, i64_w]; rfl
          refine zU 26 (some 97) bA162 rfl rfl HT_ ?_ ?_ ?_; rotate_left
          ·simp only [Act.put, qA, qB, qC, i64_w]; rfl
          refine zU 27 (some 98) bA164 rfl rfl HT_ ?_ ?_ ?_; rotate_left
          ·simp only [Act.put, qA, qB, qC, i64_w]; rfl
          refine zU 28 (some 99) bA166 rfl rfl HT_ ?_ ?_ ?_; rotate_left
          ·simp only [Act.put, qA, qB, qC, i64_w]; rfl
          refine zU 29 (some 100) bA168 rfl rfl HT_ ?_ ?_ ?_; rotate_left
          ·simp only [Act.put, qA, qB, qC, i64_w]; rfl
          refine zU 30 (some 101) bA170 rfl rfl HT_ ?_ ?_ ?_; rotate_left
          ·simp only [Act.put, qA, qB, qC, i64_w]; rfl
          refine zU 31 (some 102) bA172 rfl rfl HT_ ?_ ?_ ?_; rotate_left
          ·simp only [Act.put, qA, qB, qC, i64_w]; rfl
          refine zU 32 (some 103) bA174 rfl rfl HT_ ?_ ?_ ?_; rotate_left
          ·simp only [Act.put, qA, qB, qC, i64_w]; rfl
          refine zU 33 (some 104) bA176 rfl rfl HT_ ?_ ?_ ?_; rotate_left
          ·simp only [Act.put, qA, qB, qC, i64_w]; rfl
          refine zP 34 (some 105) ?_ bA177 rfl rfl HT_ ?_ ?_ ?_ ?_; rotate_left
          ·intro w'; go_simp; (with_reducible rfl)
          rotate_left
          ·simp only [Act.put, qA, qB, qC, i64_w]; rfl
          refine done_ (done_of HT_.out (by kernel_rfl)) ?_
          try go_wp2
          go_ret
          exact ⟨by first | rfl | (simp [*, errW_none, errW_some] <;> rfl), zB HB.out⟩
       ·rw [if_neg c84] at H; have c84b0 : decide (x11_2 < (t851.length : Int)) = false := decide_eq_false c84; clear c84
        by_cases c106 : (t851.length : Int) = 0
        ·rw [if_pos c106] at H; have c106b0 : ((t851.length : Int) == 0) = true := beq_iff_eq.mpr c106; have c106b1 : ((t851.length : Int) != 0) = false := bne_eq_false_iff_eq.mpr c106; clear c106; obtain ⟨t882, A107, H⟩ := zb H
         by_cases c108 : t882 = (-1)
         ·rw [if_pos c108] at H; have c108b0 : (t882 == (-1)) = true := beq_iff_eq.mpr c108; have c108b1 : (t882 != (-1)) = false := bne_eq_false_iff_eq.mpr c108; clear c108; obtain ⟨t883, A109, H⟩ := zb H; obtain rfl := Option.some.inj H; obtain ⟨Ao110, co110, eo110⟩ := Kd.R_slice HO_5.out; subst eo110; have hnb111 := NB850_861.out; have hnc111 := NB861_850.out; have hnb112 := NB850_866.out; have hnc112 := NB866_850.out; have hcz113_0 : wr.cell? ⟨gb850, 0, none⟩ = some (.slice Ao13 t846.length co13) := (blk_cell BK850.out 0).trans rfl; have hfz113_0 := blk_frozen BK850.out 0; go_wp2_with (first | ((with_reducible refine gate_callee (f := 15) rfl ?_); refine goesL_ (some 111) rfl rfl Try.func15 (by kernel_rfl) rfl #[.agg #[.slice Ao13 t846.length co13], .int .i64 t849] rfl (by (try simp only [za, zc, zn]); first | done | rfl) ?_; (with_reducible refine (impl_FrobeniusByApery.calls k2 _ _ t846 t849 t882 _ ?side1 ?side2 A107.out).mono ?_); (case side1 => repeat (first | exact (Kd.Q_reads' HO_851000.out).2.2 | (with_reducible refine Kd.C_alloc ?_ _) | (with_reducible refine Kd.C_drewN ?_ _) | (with_reducible refine Kd.C_drew ?_))); (case side2 => exact (Kd.Q_reads' HO_851000.out).2.1); rintro e w114 ⟨rfl, hb⟩; refine ⟨_, rfl, ?_⟩; replace HO_5 := Aside0.mk (Kd.R_below (zR HO_5.out) hb); replace HO_851000 := Aside0.mk (Kd.Q_below (zQ HO_851000.out) hb); replace HO_862000 := Aside0.mk (Kd.Q_below (zQ HO_862000.out) hb); replace HO_867000 := Aside0.mk (Kd.Q_below (zQ HO_867000.out) hb); replace BK850 := Aside0.mk (blk_below (zk BK850.out) hb); replace BK861 := Aside0.mk (blk_below (zk BK861.out) hb); replace BK866 := Aside0.mk (blk_below (zk BK866.out) hb); replace HB := Aside0.mk (below_step (zB HB.out) hb); (try clear hb); (try clear hb2); (try clear hk); (try clear hi); have hcz115_0 : w114.cell? ⟨gb850, 0, none⟩ = some (.slice Ao13 t846.length co13) := (blk_cell BK850.out 0).trans rfl; have hfz115_0 := blk_frozen BK850.out 0) | (go_at_call 16; (with_reducible refine (impl_GenusByApery.calls k2 _ _ t846 t849 t883 _ ?side1 ?side2 A109.out).mono ?_); (case side1 => repeat (first | exact (Kd.Q_reads' HO_851000.out).2.2 | (with_reducible refine Kd.C_alloc ?_ _) | (with_reducible refine Kd.C_drewN ?_ _) | (with_reducible refine Kd.C_drew ?_))); (case side2 => exact (Kd.Q_reads' HO_851000.out).2.1); rintro e w116 ⟨rfl, hb⟩; replace HO_5 := Aside0.mk (Kd.R_below (zR HO_5.out) hb); replace HO_851000 := Aside0.mk (Kd.Q_below (zQ HO_851000.out) hb); replace HO_862000 := Aside0.mk (Kd.Q_below (zQ HO_862000.out) hb); replace HO_867000 := Aside0.mk (Kd.Q_below (zQ HO_867000.out) hb); replace BK850 := Aside0.mk (blk_below (zk BK850.out) hb); replace BK861 := Aside0.mk (blk_below (zk BK861.out) hb); replace BK866 := Aside0.mk (blk_below (zk BK866.out) hb); replace HB := Aside0.mk (below_step (zB HB.out) hb); (try clear hb); (try clear hb2); (try clear hk); (try clear hi))); go_ret
          exact ⟨by first | rfl | (simp [*, errW_none, errW_some] <;> rfl), zB HB.out⟩
         ·rw [if_neg c108] at H; exact absurd (HRT.out.symm.trans ((Option.some.inj H).symm)) (by decide)
        ·rw [if_neg c106] at H; have c106b0 : ((t851.length : Int) == 0) = false := beq_eq_false_iff_ne.mpr c106; have c106b1 : ((t851.length : Int) != 0) = true := bne_iff_ne.mpr c106; have c106b2 : ¬ (t851 = []) := fun h_ => c106 (by rw [h_]; rfl)
         obtain ⟨⟨t884, t887⟩, A122, H⟩ := zb H; (try dsimp only at H); obtain ⟨t889, A123, H⟩ := zb H; obtain ⟨t890, A124, H⟩ := zb H
         by_cases c125 : t889 = t890
         ·rw [if_pos c125] at H; have c125b0 : (t889 == t890) = true := beq_iff_eq.mpr c125; have c125b1 : (t889 != t890) = false := bne_eq_false_iff_eq.mpr c125; clear c125; obtain ⟨t891, A126, H⟩ := zb H; obtain ⟨t892, A127, H⟩ := zb H
          by_cases c128 : t891 = t892
          ·rw [if_pos c128] at H; have c128b0 : (t891 == t892) = true := beq_iff_eq.mpr c128; have c128b1 : (t891 != t892) = false := bne_eq_false_iff_eq.mpr c128; clear c128
           by_cases c129 : t887 = true
           ·subst c129; rw [zT] at H; obtain ⟨t893, A130, H⟩ := zb H; obtain rfl := Option.some.inj H; obtain ⟨Ao131, co131, eo131⟩ := Kd.R_slice HO_5.out; subst eo131
            try go_wp2_with (first | ((with_reducible refine gate_callee (f := 9) rfl ?_); refine goesL_ (some 121) rfl rfl Try.func9 (by kernel_rfl) rfl #[.slice Ao131 t851.length co131] rfl (by (try simp only [za, zc, zn]); first | done | rfl) ?_; (with_reducible refine (impl_FromApery.calls k2 _ _ t851 t884 true _ ?side1 ?side2 A122.out).mono ?_); (case side1 => repeat (first | exact (Kd.R_reads' HO_5.out).2.2 | (with_reducible refine Kd.C_alloc ?_ _) | (with_reducible refine Kd.C_drewN ?_ _) | (with_reducible refine Kd.C_drew ?_))); (case side2 => exact (Kd.R_reads' HO_5.out).2.1); rintro e w132 ⟨v885, rfl, ho0, hb⟩; refine ⟨_, rfl, ?_⟩; have HO886 := Aside0.mk (Kd.R_lower (Kd.R_new' (Kd.R_new' (Kd.R_new' (Kd.R_new' ho0 (Kd.R_lt (zR HO_5.out))) (Kd.Q_lt (zQ HO_851000.out))) (Kd.Q_lt (zQ HO_862000.out))) (Kd.Q_lt (zQ HO_867000.out))) (zS HB.out)); replace HO_5 := Aside0.mk (Kd.R_elder' (zR HO_5.out) (Kd.R_base ho0) hb); replace HO_851000 := Aside0.mk (Kd.Q_elder' (zQ HO_851000.out) (Kd.R_base ho0) hb); replace HO_862000 := Aside0.mk (Kd.Q_elder' (zQ HO_862000.out) (Kd.R_base ho0) hb); replace HO_867000 := Aside0.mk (Kd.Q_elder' (zQ HO_867000.out) (Kd.R_base ho0) hb); replace BK850 := Aside0.mk (blk_below (zk BK850.out) hb); replace BK861 := Aside0.mk (blk_below (zk BK861.out) hb); replace BK866 := Aside0.mk (blk_below (zk BK866.out) hb); replace HB := Aside0.mk (below_step (zB HB.out) hb); (try clear hb); (try clear hb2); (try clear hk); (try clear hi); (try clear ho0)) | ((with_reducible refine gate_dst (N := 12) rfl ?_); refine box_event ?hg (N := 12) ?hd (cs := #[.slice none 0 0]) (t := 26) ?hr ?_; (case hd => rfl); (case hg => rfl); (case hr => first | (go_simp; done) | (go_simp; rfl)); intro gb888 hg w133 hbox hb; replace HO_5 := Aside0.mk (Kd.R_below (zR HO_5.out) hb); replace HO_851000 := Aside0.mk (Kd.Q_below (zQ HO_851000.out) hb); replace HO_862000 := Aside0.mk (Kd.Q_below (zQ HO_862000.out) hb); replace HO_867000 := Aside0.mk (Kd.Q_below (zQ HO_867000.out) hb); replace HO886 := Aside0.mk (Kd.R_below (zR HO886.out) hb); have BK888 := Aside0.mk (hbox); have GW888 := Aside0.mk ((by rw [hg]; exact (zS HB.out) : w.heap.size ≤ gb888)); have GE888 := Aside0.mk ((by rw [hg]; exact (zS HB.out) : w.heap.size ≤ gb888)); replace HB := Aside0.mk (below_step (zB HB.out) hb); have NB850_888 := Aside0.mk ((by rw [hg]; exact Nat.ne_of_lt (blk_lt (g := gb850) (o := .cells #[.slice Ao13 t846.length co13] 26 (0, 0)) (zk BK850.out)) : gb850 ≠ gb888)); have NB888_850 := Aside0.mk ((by rw [hg]; exact Nat.ne_of_gt (blk_lt (g := gb850) (o := .cells #[.slice Ao13 t846.length co13] 26 (0, 0)) (zk BK850.out)) : gb888 ≠ gb850)); replace BK850 := Aside0.mk (blk_below (zk BK850.out) hb); have NB861_888 := Aside0.mk ((by rw [hg]; exact Nat.ne_of_lt (blk_lt (g := gb861) (o := .cells #[.slice Ao20 t857.length co20] 26 (0, 0)) (zk BK861.out)) : gb861 ≠ gb888)); have NB888_861 := Aside0.mk ((by rw [hg]; exact Nat.ne_of_gt (blk_lt (g := gb861) (o := .cells #[.slice Ao20 t857.length co20] 26 (0, 0)) (zk BK861.out)) : gb888 ≠ gb861)); replace BK861 := Aside0.mk (blk_below (zk BK861.out) hb); have NB866_888 := Aside0.mk ((by rw [hg]; exact Nat.ne_of_lt (blk_lt (g := gb866) (o := .cells #[.slice Ao25 t862.length co25] 26 (0, 0)) (zk BK866.out)) : gb866 ≠ gb888)); have NB888_866 := Aside0.mk ((by rw [hg]; exact Nat.ne_of_gt (blk_lt (g := gb866) (o := .cells #[.slice Ao25 t862.length co25] 26 (0, 0)) (zk BK866.out)) : gb888 ≠ gb866)); replace BK866 := Aside0.mk (blk_below (zk BK866.out) hb); have := Ge.mk GE888.out; clear hb hbox hg; obtain ⟨Ao134, co134, eo134⟩ := Kd.R_slice HO886.out; subst eo134; have hnb135 := NB888_850.out; have hnc135 := NB850_888.out; have hnb136 := NB888_861.out; have hnc136 := NB861_888.out; have hnb137 := NB888_866.out; have hnc137 := NB866_888.out; have hcz138_0 : w133.cell? ⟨gb888, 0, none⟩ = some (.slice none 0 0) := (blk_cell BK888.out 0).trans rfl; have hfz138_0 := blk_frozen BK888.out 0))
            have n0_ : Aside0 (Kd.R (Kd.int .i64) 3 (w133.setCell ⟨gb888, 0, none⟩ (.slice Ao134 t884.length co134)) w.heap.size (fun k_ => some k_ ≠ (.slice Ao13 t846.length co13 : Value).ownBlock ∧ some k_ ≠ (.slice Ao20 t857.length co20 : Value).ownBlock ∧ some k_ ≠ (.slice Ao25 t862.length co25 : Value).ownBlock ∧ some k_ ≠ (.slice Ao134 t884.length co134 : Value).ownBlock) (.slice Ao131 t851.length co131) t851) := ⟨zR (Kd.R_mono (Kd.R_far (p := ⟨gb888, 0, none⟩) (Kd.R_types HO_5.out BK888.out (by decide)) (fun _ hk => hk.2) (.slice Ao134 t884.length co134)) (fun _ hk => ⟨hk.1.1.1, ⟨hk.1.1.2.1, ⟨hk.1.1.2.2, hk.1.2⟩⟩⟩))⟩; have n1_ : Aside0 (Kd.Q (Kd.int .i64) 3 (w133.setCell ⟨gb888, 0, none⟩ (.slice Ao134 t884.length co134)) w.heap.size (fun k_ => some k_ ≠ (.slice Ao131 t851.length co131 : Value).ownBlock ∧ some k_ ≠ (.slice Ao20 t857.length co20 : Value).ownBlock ∧ some k_ ≠ (.slice Ao25 t862.length co25 : Value).ownBlock ∧ some k_ ≠ (.slice Ao134 t884.length co134 : Value).ownBlock) (.slice Ao13 t846.length co13) t846) := ⟨zQ (Kd.Q_mono (Kd.Q_far (p := ⟨gb888, 0, none⟩) (Kd.Q_types HO_851000.out BK888.out (by decide)) (fun _ hk => hk.2) (.slice Ao134 t884.length co134)) (fun _ hk => ⟨hk.1.1.1, ⟨hk.1.1.2.1, ⟨hk.1.1.2.2, hk.1.2⟩⟩⟩))⟩; have n2_ : Aside0 (Kd.Q (Kd.int .i64) 3 (w133.setCell ⟨gb888, 0, none⟩ (.slice Ao134 t884.length co134)) w.heap.size (fun k_ => some k_ ≠ (.slice Ao131 t851.length co131 : Value).ownBlock ∧ some k_ ≠ (.slice Ao13 t846.length co13 : Value).ownBlock ∧ some k_ ≠ (.slice Ao25 t862.length co25 : Value).ownBlock ∧ some k_ ≠ (.slice Ao134 t884.length co134 : Value).ownBlock) (.slice Ao20 t857.length co20) t857) := ⟨zQ (Kd.Q_mono (Kd.Q_far (p := ⟨gb888, 0, none⟩) (Kd.Q_types HO_862000.out BK888.out (by decide)) (fun _ hk => hk.2) (.slice Ao134 t884.length co134)) (fun _ hk => ⟨hk.1.1.1, ⟨hk.1.1.2.1, ⟨hk.1.1.2.2, hk.1.2⟩⟩⟩))⟩; have n3_ : Aside0 (Kd.Q (Kd.int .i64) 3 (w133.setCell ⟨gb888, 0, none⟩ (.slice Ao134 t884.length co134)) w.heap.size (fun k_ => some k_ ≠ (.slice Ao131 t851.length co131 : Value).ownBlock ∧ some k_ ≠ (.slice Ao13 t846.length co13 : Value).ownBlock ∧ some k_ ≠ (.slice Ao20 t857.length co20 : Value).ownBlock ∧ some k_ ≠ (.slice Ao134 t884.length co134 : Value).ownBlock) (.slice Ao25 t862.length co25) t862) := ⟨zQ (Kd.Q_mono (Kd.Q_far (p := ⟨gb888, 0, none⟩) (Kd.Q_types HO_867000.out BK888.out (by decide)) (fun _ hk => hk.2) (.slice Ao134 t884.length co134)) (fun _ hk => ⟨hk.1.1.1, ⟨hk.1.1.2.1, ⟨hk.1.1.2.2, hk.1.2⟩⟩⟩))⟩; have n4_ : Aside0 (Kd.R (Kd.int .i64) 3 (w133.setCell ⟨gb888, 0, none⟩ (.slice Ao134 t884.length co134)) w.heap.size (fun k_ => some k_ ≠ (.slice Ao131 t851.length co131 : Value).ownBlock ∧ some k_ ≠ (.slice Ao13 t846.length co13 : Value).ownBlock ∧ some k_ ≠ (.slice Ao20 t857.length co20 : Value).ownBlock ∧ some k_ ≠ (.slice Ao25 t862.length co25 : Value).ownBlock) (.slice Ao134 t884.length co134) t884) := ⟨zR (Kd.R_mono (Kd.R_far (p := ⟨gb888, 0, none⟩) (Kd.R_types HO886.out BK888.out (by decide)) (fun _ hk => hk.2) (.slice Ao134 t884.length co134)) (fun _ hk => ⟨hk.1.1.1.1.2, ⟨hk.1.1.1.2, ⟨hk.1.1.2, hk.1.2⟩⟩⟩))⟩; have n5_ : Aside0 ((w133.setCell ⟨gb888, 0, none⟩ (.slice Ao134 t884.length co134)).heap[gb850]? = some (.cells #[.slice Ao13 t846.length co13] 26 (0, 0))) := ⟨by (with_reducible repeat (first | refine blk_drewN ?_ _ | refine blk_drew ?_ | refine blk_alloc ?_ _)); refine blk_far ?_ NB850_888.out _; (with_reducible repeat (first | refine blk_drewN ?_ _ | refine blk_drew ?_ | refine blk_alloc ?_ _)); exact BK850.out⟩; have n6_ : Aside0 ((w133.setCell ⟨gb888, 0, none⟩ (.slice Ao134 t884.length co134)).heap[gb861]? = some (.cells #[.slice Ao20 t857.length co20] 26 (0, 0))) := ⟨by (with_reducible repeat (first | refine blk_drewN ?_ _ | refine blk_drew ?_ | refine blk_alloc ?_ _)); refine blk_far ?_ NB861_888.out _; (with_reducible repeat (first | refine blk_drewN ?_ _ | refine blk_drew ?_ | refine blk_alloc ?_ _)); exact BK861.out⟩; have n7_ : Aside0 ((w133.setCell ⟨gb888, 0, none⟩ (.slice Ao134 t884.length co134)).heap[gb866]? = some (.cells #[.slice Ao25 t862.length co25] 26 (0, 0))) := ⟨by (with_reducible repeat (first | refine blk_drewN ?_ _ | refine blk_drew ?_ | refine blk_alloc ?_ _)); refine blk_far ?_ NB866_888.out _; (with_reducible repeat (first | refine blk_drewN ?_ _ | refine blk_drew ?_ | refine blk_alloc ?_ _)); exact BK866.out⟩; have n8_ : Aside0 ((w133.setCell ⟨gb888, 0, none⟩ (.slice Ao134 t884.length co134)).heap[gb888]? = some (.cells #[.slice Ao134 t884.length co134] 26 (0, 0))) := ⟨by (with_reducible repeat (first | refine blk_drewN ?_ _ | refine blk_drew ?_ | refine blk_alloc ?_ _)); refine blk_put (cs := #[.slice none 0 0]) ?_ 0 _ rfl; (with_reducible repeat (first | refine blk_drewN ?_ _ | refine blk_drew ?_ | refine blk_alloc ?_ _)); exact BK888.out⟩; have n9_ : Aside0 (Below w.heap.size w (w133.setCell ⟨gb888, 0, none⟩ (.slice Ao134 t884.length co134))) := ⟨zB HB.out⟩; (try clear HO_5); (try clear HO_851000); (try clear HO_862000); (try clear HO_867000); (try clear HO886); (try clear BK850); (try clear BK861); (try clear BK866); (try clear BK888); (try clear HB); generalize (w133.setCell ⟨gb888, 0, none⟩ (.slice Ao134 t884.length co134)) = w139 at n0_ n1_ n2_ n3_ n4_ n5_ n6_ n7_ n8_ n9_ ⊢; have HO_5 := n0_; have HO_851000 := n1_; have HO_862000 := n2_; have HO_867000 := n3_; have HO886 := n4_; have BK850 := n5_; have BK861 := n6_; have BK866 := n7_; have BK888 := n8_; have HB := n9_; clear n0_ n1_ n2_ n3_ n4_ n5_ n6_ n7_ n8_ n9_; replace HO_5 := Aside0.mk (Kd.R_drew HO_5.out); replace HO_851000 := Aside0.mk (Kd.Q_drew HO_851000.out); replace HO_862000 := Aside0.mk (Kd.Q_drew HO_862000.out); replace HO_867000 := Aside0.mk (Kd.Q_drew HO_867000.out); replace HO886 := Aside0.mk (Kd.R_drew HO886.out); replace BK850 := Aside0.mk (blk_drew BK850.out); replace BK861 := Aside0.mk (blk_drew BK861.out); replace BK866 := Aside0.mk (blk_drew BK866.out); replace BK888 := Aside0.mk (blk_drew BK888.out); replace HB := Aside0.mk (below_drew1 HB.out); refine start_ (n := 23) (S := fun w' => w'.cell? ⟨gb850, 0, none⟩ = some (.slice Ao13 t846.length co13) ∧ w'.cell? ⟨gb888, 0, none⟩ = some (.slice Ao134 t884.length co134)) (ds := []) bA2 (by kernel_rfl) rfl rfl ⟨(blk_cell BK850.out 0).trans rfl, (blk_cell BK888.out 0).trans rfl⟩ (fun hHeld => ?_); refine with_tabW laws_FnApery.tab18 laws_FnApery.bits18 (fun HT_ HW_ => ?_); generalize w139.drew = w140 at HO_5 HO_851000 HO_862000 HO_867000 HO886 BK850 BK861 BK866 BK888 HB hHeld ⊢; refine zP 1 (some 125) ?_ bA9 rfl rfl HT_ ?_ ?_ ?_ ?_; rotate_left
            ·intro w'; go_simp; (with_reducible rfl)
            rotate_left
            ·simp only [Act.put, qA, qB, qC, i64_w]; rfl
            refine zZ 0 (some 124) ?_ bA20 rfl rfl HT_ HW_ ?_ hHeld ?_ ?_ ?_; rotate_left
            ·rintro w' ⟨s0, s1⟩; go_simp; (with_reducible rfl)
            rotate_left
            ·simp only [Act.put, qA, qB, qC, i64_w]; rfl
            refine zZ 3 (some 127) ?_ bA26 rfl rfl HT_ HW_ ?_ hHeld ?_ ?_ ?_; rotate_left
            ·rintro w' ⟨s0, s1⟩; go_simp; (with_reducible rfl)
            rotate_left
            ·simp only [Act.put, qA, qB, qC, i64_w]; rfl
            refine one_ (i := 2) (N := some 126) bA41 rfl rfl (one_of HT_.out (by kernel_rfl)) (by decide) (fun K hK => ?_); refine goes_ Try.func15 (by kernel_rfl) rfl #[.agg #[.slice Ao13 t846.length co13], .int .i64 t849] (by rfl) rfl rfl (by (try simp only [za, zc, zn]); first | done | rfl) ?_; (with_reducible refine (impl_FrobeniusByApery.calls k2 _ _ t846 t849 t889 _ ?side1 ?side2 A123.out).mono ?_); (case side1 => repeat (first | exact (Kd.Q_reads' HO_851000.out).2.2 | (with_reducible refine Kd.C_alloc ?_ _) | (with_reducible refine Kd.C_drewN ?_ _) | (with_reducible refine Kd.C_drew ?_))); (case side2 => exact (Kd.Q_reads' HO_851000.out).2.1); rintro e w141 ⟨rfl, hb⟩; refine ⟨_, rfl, ?_⟩; replace HO_5 := Aside0.mk (Kd.R_below (zR HO_5.out) hb); replace HO_851000 := Aside0.mk (Kd.Q_below (zQ HO_851000.out) hb); replace HO_862000 := Aside0.mk (Kd.Q_below (zQ HO_862000.out) hb); replace HO_867000 := Aside0.mk (Kd.Q_below (zQ HO_867000.out) hb); replace HO886 := Aside0.mk (Kd.R_below (zR HO886.out) hb); replace BK850 := Aside0.mk (blk_below (zk BK850.out) hb); replace BK861 := Aside0.mk (blk_below (zk BK861.out) hb); replace BK866 := Aside0.mk (blk_below (zk BK866.out) hb); replace BK888 := Aside0.mk (blk_below (zk BK888.out) hb); replace HB := Aside0.mk (below_step (zB HB.out) hb); (try clear hb); (try clear hb2); (try clear hk); (try clear hi); refine hK.out _ _ ⟨(blk_cell BK850.out 0).trans rfl, (blk_cell BK888.out 0).trans rfl⟩ (fun hHeld => ?_); clear hK K; refine norm_ (a' := ?_) ?_ ?_; rotate_left
            ·show Act.put _ (some 126) _ = _; simp only [Act.put, qA, qB, qC, i64_w]; rfl
            refine one_ (i := 4) (N := some 128) bA51 rfl rfl (one_of HT_.out (by kernel_rfl)) (by decide) (fun K hK => ?_); refine goes_ Try.func17 (by kernel_rfl) rfl #[.agg #[.slice Ao13 t846.length co13]] (by rfl) rfl rfl (by (try simp only [za, zc, zn]); first | done | rfl) ?_; (with_reducible refine (spec_FrobeniusOf.calls k2 _ _ t846 t890 _ ?side1 ?side2 A124.out).mono ?_); (case side1 => repeat (first | exact (Kd.Q_reads' HO_851000.out).2.2 | (with_reducible refine Kd.C_alloc ?_ _) | (with_reducible refine Kd.C_drewN ?_ _) | (with_reducible refine Kd.C_drew ?_))); (case side2 => exact (Kd.Q_reads' HO_851000.out).2.1); rintro e w142 ⟨rfl, hb⟩; refine ⟨_, rfl, ?_⟩; replace HO_5 := Aside0.mk (Kd.R_below (zR HO_5.out) hb); replace HO_851000 := Aside0.mk (Kd.Q_below (zQ HO_851000.out) hb); replace HO_862000 := Aside0.mk (Kd.Q_below (zQ HO_862000.out) hb); replace HO_867000 := Aside0.mk (Kd.Q_below (zQ HO_867000.out) hb); replace HO886 := Aside0.mk (Kd.R_below (zR HO886.out) hb); replace BK850 := Aside0.mk (blk_below (zk BK850.out) hb); replace BK861 := Aside0.mk (blk_below (zk BK861.out) hb); replace BK866 := Aside0.mk (blk_below (zk BK866.out) hb); replace BK888 := Aside0.mk (blk_below (zk BK888.out) hb); replace HB := Aside0.mk (below_step (zB HB.out) hb); (try clear hb); (try clear hb2); (try clear hk); (try clear hi); refine hK.out _ _ ⟨(blk_cell BK850.out 0).trans rfl, (blk_cell BK888.out 0).trans rfl⟩ (fun hHeld => ?_); clear hK K; refine norm_ (a' := ?_) ?_ ?_; rotate_left
            ·show Act.put _ (some 128) _ = _; simp only [Act.put, qA, qB, qC, i64_w]; rfl
            refine zP 5 (some 129) ?_ bA58 rfl rfl HT_ ?_ ?_ ?_ ?_; rotate_left
            ·intro w'; go_simp; (with_reducible rfl)
            rotate_left
            ·simp only [Act.put, qA, qB, qC, i64_w]; rfl
            refine zP 6 (some 130) ?_ bA66 rfl rfl HT_ ?_ ?_ ?_ ?_; rotate_left
            ·intro w'; go_simp; (with_reducible rfl)
            rotate_left
            ·simp only [Act.put, qA, qB, qC, i64_w]; rfl
            refine zP 8 (some 132) ?_ bA70 rfl rfl HT_ ?_ ?_ ?_ ?_; rotate_left
            ·intro w'; go_simp; (with_reducible rfl)
            rotate_left
            ·simp only [Act.put, qA, qB, qC, i64_w]; rfl
            refine zZ 7 (some 131) ?_ bA82 rfl rfl HT_ HW_ ?_ hHeld ?_ ?_ ?_; rotate_left
            ·rintro w' ⟨s0, s1⟩; go_simp; (with_reducible rfl)
            rotate_left
            ·simp only [Act.put, qA, qB, qC, i64_w]; rfl
            refine zZ 10 (some 134) ?_ bA89 rfl rfl HT_ HW_ ?_ hHeld ?_ ?_ ?_; rotate_left
            ·rintro w' ⟨s0, s1⟩; go_simp; (with_reducible rfl)
            rotate_left
            ·simp only [Act.put, qA, qB, qC, i64_w]; rfl
            refine one_ (i := 9) (N := some 133) bA100 rfl rfl (one_of HT_.out (by kernel_rfl)) (by decide) (fun K hK => ?_); refine goes_ Try.func16 (by kernel_rfl) rfl #[.agg #[.slice Ao13 t846.length co13], .int .i64 t849] (by rfl) rfl rfl (by (try simp only [za, zc, zn]); first | done | rfl) ?_; (with_reducible refine (impl_GenusByApery.calls k2 _ _ t846 t849 t891 _ ?side1 ?side2 A126.out).mono ?_); (case side1 => repeat (first | exact (Kd.Q_reads' HO_851000.out).2.2 | (with_reducible refine Kd.C_alloc ?_ _) | (with_reducible refine Kd.C_drewN ?_ _) | (with_reducible refine Kd.C_drew ?_))); (case side2 => exact (Kd.Q_reads' HO_851000.out).2.1); rintro e w143 ⟨rfl, hb⟩; refine ⟨_, rfl, ?_⟩; replace HO_5 := Aside0.mk (Kd.R_below (zR HO_5.out) hb); replace HO_851000 := Aside0.mk (Kd.Q_below (zQ HO_851000.out) hb); replace HO_862000 := Aside0.mk (Kd.Q_below (zQ HO_862000.out) hb); replace HO_867000 := Aside0.mk (Kd.Q_below (zQ HO_867000.out) hb); replace HO886 := Aside0.mk (Kd.R_below (zR HO886.out) hb); replace BK850 := Aside0.mk (blk_below (zk BK850.out) hb); replace BK861 := Aside0.mk (blk_below (zk BK861.out) hb); replace BK866 := Aside0.mk (blk_below (zk BK866.out) hb); replace BK888 := Aside0.mk (blk_below (zk BK888.out) hb); replace HB := Aside0.mk (below_step (zB HB.out) hb); (try clear hb); (try clear hb2); (try clear hk); (try clear hi); refine hK.out _ _ ⟨(blk_cell BK850.out 0).trans rfl, (blk_cell BK888.out 0).trans rfl⟩ (fun hHeld => ?_); clear hK K; refine norm_ (a' := ?_) ?_ ?_; rotate_left
            ·show Act.put _ (some 133) _ = _; simp only [Act.put, qA, qB, qC, i64_w]; rfl
            refine one_ (i := 11) (N := some 135) bA106 rfl rfl (one_of HT_.out (by kernel_rfl)) (by decide) (fun K hK => ?_); refine goes_ Try.func18 (by kernel_rfl) rfl #[.agg #[.slice Ao13 t846.length co13]] (by rfl) rfl rfl (by (try simp only [za, zc, zn]); first | done | rfl) ?_; (with_reducible refine (spec_GenusOf.calls k2 _ _ t846 t892 _ ?side1 ?side2 A127.out).mono ?_); (case side1 => repeat (first | exact (Kd.Q_reads' HO_851000.out).2.2 | (with_reducible refine Kd.C_alloc ?_ _) | (with_reducible refine Kd.C_drewN ?_ _) | (with_reducible refine Kd.C_drew ?_))); (case side2 => exact (Kd.Q_reads' HO_851000.out).2.1); rintro e w144 ⟨rfl, hb⟩; refine ⟨_, rfl, ?_⟩; replace HO_5 := Aside0.mk (Kd.R_below (zR HO_5.out) hb); replace HO_851000 := Aside0.mk (Kd.Q_below (zQ HO_851000.out) hb); replace HO_862000 := Aside0.mk (Kd.Q_below (zQ HO_862000.out) hb); replace HO_867000 := Aside0.mk (Kd.Q_below (zQ HO_867000.out) hb); replace HO886 := Aside0.mk (Kd.R_below (zR HO886.out) hb); replace BK850 := Aside0.mk (blk_below (zk BK850.out) hb); replace BK861 := Aside0.mk (blk_below (zk BK861.out) hb); replace BK866 := Aside0.mk (blk_below (zk BK866.out) hb); replace BK888 := Aside0.mk (blk_below (zk BK888.out) hb); replace HB := Aside0.mk (below_step (zB HB.out) hb); (try clear hb); (try clear hb2); (try clear hk); (try clear hi); refine hK.out _ _ ⟨(blk_cell BK850.out 0).trans rfl, (blk_cell BK888.out 0).trans rfl⟩ (fun hHeld => ?_); clear hK K; refine norm_ (a' := ?_) ?_ ?_; rotate_left
            ·show Act.put _ (some 135) _ = _; simp only [Act.put, qA, qB, qC, i64_w]; rfl
            refine zP 12 (some 136) ?_ bA112 rfl rfl HT_ ?_ ?_ ?_ ?_; rotate_left
            ·intro w'; go_simp; (with_reducible rfl)
            rotate_left
            ·simp only [Act.put, qA, qB, qC, i64_w]; rfl
            refine zP 13 (some 137) ?_ bA117 rfl rfl HT_ ?_ ?_ ?_ ?_; rotate_left
            ·intro w'; go_simp; (with_reducible rfl)
            rotate_left
            ·simp only [Act.put, qA, qB, qC, i64_w]; rfl
            refine zP 14 (some 138) ?_ bA121 rfl rfl HT_ ?_ ?_ ?_ ?_; rotate_left
            ·intro w'; go_simp; (with_reducible rfl)
            rotate_left
            ·simp only [Act.put, qA, qB, qC, i64_w]; rfl
            refine zP 15 (some 139) ?_ bA125 rfl rfl HT_ ?_ ?_ ?_ ?_; rotate_left
            ·intro w'; go_simp; (with_reducible rfl)
            rotate_left
            ·simp only [Act.put, qA, qB, qC, i64_w]; rfl
            refine zP 16 (some 140) ?_ bA129 rfl rfl HT_ ?_ ?_ ?_ ?_; rotate_left
            ·intro w'; go_simp; (with_reducible rfl)
            rotate_left
            ·simp only [Act.put, qA, qB, qC, i64_w]; rfl
            refine zP 17 (some 141) ?_ bA133 rfl rfl HT_ ?_ ?_ ?_ ?_; rotate_left
            ·intro w'; go_simp; (with_reducible rfl)
            rotate_left
            ·simp only [Act.put, qA, qB, qC, i64_w]; rfl
            refine zZ 18 (some 142) ?_ bA137 rfl rfl HT_ HW_ ?_ hHeld ?_ ?_ ?_; rotate_left
            ·rintro w' ⟨s0, s1⟩; go_simp; (with_reducible rfl)
            rotate_left
            ·simp only [Act.put, qA, qB, qC, i64_w]; rfl
            refine zZ 19 (some 143) ?_ bA141 rfl rfl HT_ HW_ ?_ hHeld ?_ ?_ ?_; rotate_left
            ·rintro w' ⟨s0, s1⟩; go_simp; (with_reducible rfl)
            rotate_left
            ·simp only [Act.put, qA, qB, qC, i64_w]; rfl
            refine one_ (i := 20) (N := some 144) bA145 rfl rfl (one_of HT_.out (by kernel_rfl)) (by decide) (fun K hK => ?_); refine goes_ Try.func13 (by kernel_rfl) rfl #[.agg #[.slice Ao134 t884.length co134], .agg #[.slice Ao13 t846.length co13]] (by rfl) rfl rfl (by (try simp only [za, zc, zn]); first | done | rfl) ?_; (with_reducible refine (spec_EqualSemigroup.calls k2 _ _ t884 _ _ t846 t893 _ ?side1 ?side2 ?side3 ?side4 A130.out).mono ?_); (case side1 => repeat (first | exact (Kd.R_reads' HO886.out).2.2 | (with_reducible refine Kd.C_alloc ?_ _) | (with_reducible refine Kd.C_drewN ?_ _) | (with_reducible refine Kd.C_drew ?_))); (case side2 => exact (Kd.R_reads' HO886.out).2.1); (case side3 => repeat (first | exact (Kd.Q_reads' HO_851000.out).2.2 | (with_reducible refine Kd.C_alloc ?_ _) | (with_reducible refine Kd.C_drewN ?_ _) | (with_reducible refine Kd.C_drew ?_))); (case side4 => exact (Kd.Q_reads' HO_851000.out).2.1); rintro e w145 ⟨rfl, hb⟩; refine ⟨_, rfl, ?_⟩; replace HO_5 := Aside0.mk (Kd.R_below (zR HO_5.out) hb); replace HO_851000 := Aside0.mk (Kd.Q_below (zQ HO_851000.out) hb); replace HO_862000 := Aside0.mk (Kd.Q_below (zQ HO_862000.out) hb); replace HO_867000 := Aside0.mk (Kd.Q_below (zQ HO_867000.out) hb); replace HO886 := Aside0.mk (Kd.R_below (zR HO886.out) hb); replace BK850 := Aside0.mk (blk_below (zk BK850.out) hb); replace BK861 := Aside0.mk (blk_below (zk BK861.out) hb); replace BK866 := Aside0.mk (blk_below (zk BK866.out) hb); replace BK888 := Aside0.mk (blk_below (zk BK888.out) hb); replace HB := Aside0.mk (below_step (zB HB.out) hb); (try clear hb); (try clear hb2); (try clear hk); (try clear hi); refine hK.out _ _ ⟨(blk_cell BK850.out 0).trans rfl, (blk_cell BK888.out 0).trans rfl⟩ (fun hHeld => ?_); clear hK K; refine norm_ (a' := ?_) ?_ ?_; rotate_left
            ·show Act.put _ (some 144) _ = _; simp only [Act.put, qA, qB, qC, i64_w]; rfl
            refine zP 21 (some 145) ?_ bA151 rfl rfl HT_ ?_ ?_ ?_ ?_; rotate_left
            ·intro w'; go_simp; (with_reducible rfl)
            rotate_left
            ·simp only [Act.put, qA, qB, qC, i64_w]; rfl
            refine zP 22 (some 2) ?_ bA179 rfl rfl HT_ ?_ ?_ ?_ ?_; rotate_left
            ·intro w'; go_simp; (with_reducible rfl)
            rotate_left
            ·simp only [Act.put, qA, qB, qC, i64_w]; rfl
            refine done_ (done_of HT_.out (by kernel_rfl)) ?_
            try go_wp2
            go_ret
            exact ⟨by first | rfl | (simp [*, errW_none, errW_some] <;> rfl), zB HB.out⟩
           ·replace c129 := Bool.eq_false_iff.mpr c129; subst c129; have H1 : (some false) = some r := by rw [if_neg (show ¬ (false = true) by decide)] at H; exact H
            exact absurd (HRT.out.symm.trans ((Option.some.inj H1).symm)) (by decide)
          ·rw [if_neg c128] at H; exact absurd (HRT.out.symm.trans ((Option.some.inj H).symm)) (by decide)
         ·rw [if_neg c125] at H; exact absurd (HRT.out.symm.trans ((Option.some.inj H).symm)) (by decide)

def laws_FnApery.Pure : Prop := ∀ (l0 : List Int), l0.length ≤ maxLen → l0.length * 1 ≤ 140737488351232 → (∀ x ∈ l0, (Lit.int .u8 x).wf = true) → ∃ k, laws_FnApery.f k l0 = some true
theorem laws_FnApery.walk (P : laws_FnApery.Pure) (a0 : Option Addr) (len0 cap0 : Nat) (z0 : List Int) (w : World) (w0 : (a0 = none ∧ len0 = 0 ∧ cap0 = 0 ∧ z0 = []) ∨ ∃ x, a0 = some x ∧ len0 ≤ cap0 ∧ cap0 ≤ maxLen ∧ z0.length = cap0 ∧ (∀ i, i < z0.length → w.cell? (x.add i) = some (.int .u8 (z0.getD i 0))) ∧ ∀ n ∈ z0, (Lit.int .u8 n).wf = true) (y0 : len0 * 1 ≤ 140737488351232) :
  Calls Try.prog 3 #[.slice a0 len0 cap0] w fun e w' => e = .returned (.bool true) ∧ Below w.heap.size w w' := by
 obtain ⟨l0, rfl, hr0, hm0, hw0, hc0⟩ := ReadsInt.ofRowC w0; obtain ⟨k, h⟩ := P l0 hm0 y0 hw0; refine (laws_FnApery.calls k _ _ l0 true w (Kd.C_of_reads (d := (0 : Int)) (h1 := fun _ => rfl) hr0) hc0 h rfl).mono ?_; rintro e w' ⟨rfl, hd⟩; exact ⟨rfl, hd⟩

end Go.Proofs.Ythednemidaegkaa.PFnApery
