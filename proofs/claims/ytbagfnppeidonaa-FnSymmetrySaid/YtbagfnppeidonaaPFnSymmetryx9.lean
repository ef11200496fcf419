-- Written by a program of this session (a turned copy of the kit's print; see NOTES.md).
import Derived.Test.YtbagfnppeidonaaPFnSymmetryx0
import Derived.Test.YtbagfnppeidonaaPFnSymmetryx7
import Derived.Test.YtbagfnppeidonaaPFnSymmetryx8
namespace Go.Proofs.Ytbagfnppeidonaa.PFnSymmetry
open Go.RowKit Go.Proofs.YtbagfnppeidonaaW.PrintWords Go.Proofs.YtbagfnppeidonaaW.PrintLast Go.Proofs.YtbagfnppeidonaaW.PrintMore
attribute [local go_sem] max2_int min2_int max_two min_two max_three min_three max_four min_four   -- for this text's walks alone
set_option linter.unusedVariables false
set_option linter.unusedSimpArgs false

/-! ### spec_l3Bent: function 116 -/
def spec_l3Bent.f (k : Nat) (s0_0 : List Int) (s0_1 : Int) (s0_2 : Int) : Option (List Int × Int × Int) := (spec_l3Draw.f k s0_0 s0_1 s0_2).bind fun bt346 => ((spec_l1Below.f s0_0 bt346.2.1 bt346.2.2 12).bind fun bt352 => (if bt352.1 = 0 then ((spec_l1PickInt.f s0_0 bt352.2.1 bt352.2.2 (([0, 61, 12, (-3), 60] : List Int))).bind fun bt358 => (if bt346.1.length < 17592186044416 then (some ((bt346.1 ++ [bt358.1]), bt358.2.1, bt358.2.2)) else (none))) else (if bt352.1 = 1 then (if 1 ≤ (bt346.1.length : Int) then (some ((bt346.1.drop (1 : Int).toNat), bt352.2.1, bt352.2.2)) else (none)) else (if bt352.1 = 2 then ((spec_l1PickInt.f s0_0 bt352.2.1 bt352.2.2 (([0, 59, 4] : List Int))).bind fun bt370 => (some ((([bt370.1, 60] : List Int)), bt370.2.1, bt370.2.2))) else (some (bt346.1, bt352.2.1, bt352.2.2))))))
theorem spec_l3Bent.mono : ∀ a0 a1 a2 k, LeO (spec_l3Bent.f k a0 a1 a2) (spec_l3Bent.f (k + 1) a0 a1 a2) := by
 intro a0 a1 a2 k
 unfold spec_l3Bent.f
 repeat' first
   | (with_reducible first | exact spec_l3Draw.mono _ _ _ _ | exact LeO.refl _ | exact LeO.none _ | refine LeO.ite ?_ ?_ | refine LeO.bind ?_ (fun _ => ?_))
   | exact LeO.none _
   | refine LeO.ite ?_ ?_
   | refine LeO.bind ?_ (fun _ => ?_)
def spec_l3Bent.T4 : Bool × List (List Nat × List Nat) := (true, [([], []), ([0], [0]), ([], []), ([], []), ([2, 3], [2, 3]), ([4], [4]), ([1, 5, 4], [1, 5]), ([0, 1, 2, 3, 4, 5, 6], []), ([7, 6, 6, 0, 1, 2, 3, 4, 5, 6], [6, 7])])
def spec_l3Bent.B4 : List Nat := [0, 1, 0, 0, 12, 28, 63, 127, 255]
theorem spec_l3Bent.tab4 : rtab .any (opsOf Try.f116 4) = spec_l3Bent.T4 := by kernel_rfl
theorem spec_l3Bent.bits4 : waitsOk spec_l3Bent.T4.2 spec_l3Bent.B4 = true := by kernel_rfl
set_option maxHeartbeats 8000000 in
set_option maxRecDepth 100000 in
theorem spec_l3Bent.calls (k : Nat) (g : Nat) (s0_0 : List Int) (s0_1 : Int) (s0_2 : Int) (r1 : List Int) (r2 : Int) (r3 : Int) (w0 w : World) (hI : IsS92 w0 w g s0_0 s0_1 s0_2) (hB : Below w0.heap.size w0 w) (h : spec_l3Bent.f k s0_0 s0_1 s0_2 = some (r1, r2, r3)) :
  Calls Try.prog 116 #[.pointer (some ⟨g, 0, none⟩)] w fun e w' => ∃ v0_ : Value, e = .returned (.agg #[v0_]) ∧ Kd.Q (Kd.int .i64) 3 w' w.heap.size (fun _ => True) v0_ r1 ∧ IsS92 w0 w' g s0_0 r2 r3 ∧ Below w0.heap.size w0 w' ∧ KeepBut w w' g none := by
 have hu40 := Try.underlying40
 have HI0 := Aside0.mk hI
 have HK := Aside0.mk (KeepBut.refl w g none)
 have HL := Aside0.mk hB.size
 clear hI
 have HW0 := Aside0.mk hB.size
 have HB := Aside0.mk hB
 clear hB
 have H : ((spec_l3Draw.f k s0_0 s0_1 s0_2).bind fun bt346 => ((spec_l1Below.f s0_0 bt346.2.1 bt346.2.2 12).bind fun bt352 => (if bt352.1 = 0 then ((spec_l1PickInt.f s0_0 bt352.2.1 bt352.2.2 (([0, 61, 12, (-3), 60] : List Int))).bind fun bt358 => (if bt346.1.length < 17592186044416 then (some ((bt346.1 ++ [bt358.1]), bt358.2.1, bt358.2.2)) else (none))) else (if bt352.1 = 1 then (if 1 ≤ (bt346.1.length : Int) then (some ((bt346.1.drop (1 : Int).toNat), bt352.2.1, bt352.2.2)) else (none)) else (if bt352.1 = 2 then ((spec_l1PickInt.f s0_0 bt352.2.1 bt352.2.2 (([0, 59, 4] : List Int))).bind fun bt370 => (some ((([bt370.1, 60] : List Int)), bt370.2.1, bt370.2.2))) else (some (bt346.1, bt352.2.1, bt352.2.2))))))) = some (r1, r2, r3) := h
 clear h
 obtain ⟨⟨t346, t349, t350⟩, A2, H⟩ := zb H
 (try dsimp only at H)
 obtain ⟨⟨t352, t353, t354⟩, A3, H⟩ := zb H
 (try dsimp only at H)
 have HU4 := Aside0.mk H
 clear H
 go_enter Try.func116, Try.ntmps116
 go_upto_if 8 with (first | ((with_reducible refine gate_dst (N := 2) rfl ?_); refine box_event ?hg (N := 2) ?hd (cs := #[.slice none 0 0]) (t := 40) ?hr ?_; (case hd => rfl); (case hg => rfl); (case hr => first | (go_simp; done) | (go_simp; rfl)); intro gb345 hg w5 hbox hb; have n0_ := Aside0.mk (IsS92.below (by repeat (first | (with_reducible first | exact HI0.out | apply IsS92.alloc | apply IsS92.drewN | apply IsS92.drew | apply IsS92.set_1 | apply IsS92.set_2) | exact HI0.out)) hb); have n1_ := Aside0.mk (KeepBut.trans (by repeat (first | (with_reducible first | exact HK.out | apply KeepBut.set_ | apply keep_drewN | apply keep_drew | apply keep_alloc) | exact HK.out)) (KeepBut.of_below hb g none) (.inl rfl)); have n2_ := Aside0.mk (below_step (by repeat (first | (with_reducible first | exact HB.out | apply below_alloc | apply pw_below_drewN | apply below_drew1 | refine below_set ?_ (IsS92.ge HI0.out)) | exact HB.out)) hb); have n3_ := Aside0.mk (hbox); have n4_ := Aside0.mk ((by rw [hg]; exact (keep_size (w := w) (g := g) (row := none) (by repeat (first | (with_reducible first | exact HK.out | apply KeepBut.set_ | apply keep_drewN | apply keep_drew | apply keep_alloc) | exact HK.out))) : w.heap.size ≤ gb345)); have n5_ := Aside0.mk ((Nat.le_trans HW0.out (by rw [hg]; exact (keep_size (w := w) (g := g) (row := none) (by repeat (first | (with_reducible first | exact HK.out | apply KeepBut.set_ | apply keep_drewN | apply keep_drew | apply keep_alloc) | exact HK.out))) : w.heap.size ≤ gb345) : w0.heap.size ≤ gb345)); have n6_ := Aside0.mk ((by rw [hg]; exact Nat.ne_of_lt (IsS92.lt (show IsS92 w0 _ g s0_0 s0_1 s0_2 from by repeat (first | (with_reducible first | exact HI0.out | apply IsS92.alloc | apply IsS92.drewN | apply IsS92.drew | apply IsS92.set_1 | apply IsS92.set_2) | exact HI0.out))) : g ≠ gb345)); have n7_ := Aside0.mk ((by rw [hg]; exact Nat.ne_of_gt (IsS92.lt (show IsS92 w0 _ g s0_0 s0_1 s0_2 from by repeat (first | (with_reducible first | exact HI0.out | apply IsS92.alloc | apply IsS92.drewN | apply IsS92.drew | apply IsS92.set_1 | apply IsS92.set_2) | exact HI0.out))) : gb345 ≠ g)); clear HI0; clear HK; clear HB; have HI0 := n0_; have HK := n1_; have HB := n2_; have BK345 := n3_; have GW345 := n4_; have GE345 := n5_; have NB0_345 := n6_; have NB345_0 := n7_; clear n0_ n1_ n2_ n3_ n4_ n5_ n6_ n7_; clear hb hbox hg) | ((with_reducible refine gate_callee (f := 135) rfl ?_); refine goesL_ (some 5) rfl rfl Try.func135 (by kernel_rfl) rfl #[.pointer (some ⟨g, 0, none⟩)] rfl (by (try simp only [za, zc, zn]); first | done | rfl) ?_; (with_reducible refine (spec_l3Draw.calls k g s0_0 s0_1 s0_2 t346 t349 t350 w0 _ ?side1 ?side2 A2.out).mono ?_); (case side1 => repeat (first | (with_reducible first | exact HI0.out | apply IsS92.alloc | apply IsS92.drewN | apply IsS92.drew | apply IsS92.set_1 | apply IsS92.set_2 | refine IsS92.far ?_ NB0_345.out _) | exact HI0.out)); (case side2 => repeat (first | (with_reducible first | exact HB.out | apply below_alloc | apply pw_below_drewN | apply below_drew1 | refine below_set ?_ (IsS92.ge HI0.out) | refine below_set ?_ GE345.out) | exact HB.out)); rintro e w6 ⟨v347, rfl, ho0, hi, hb, hk⟩; refine ⟨_, rfl, ?_⟩; have n0_ := Aside0.mk (KeepBut.blk hk (g' := gb345) (o := .cells #[.slice none 0 0] 40 (0, 0)) (zk BK345.out) NB345_0.out (by simp)); have n1_ := Aside0.mk (Kd.R_lower ho0 (keep_size (w := w) (g := g) (row := none) (by repeat (first | (with_reducible first | exact HK.out | apply KeepBut.set_ | apply keep_drewN | apply keep_drew | apply keep_alloc | refine keep_far ?_ GW345.out _) | exact HK.out)))); have n2_ := Aside0.mk (KeepBut.trans (by repeat (first | (with_reducible first | exact HK.out | apply KeepBut.set_ | apply keep_drewN | apply keep_drew | apply keep_alloc | refine keep_far ?_ GW345.out _) | exact HK.out)) hk (.inl rfl)); have n3_ := Aside0.mk (hb); have n4_ := Aside0.mk (hi); clear BK345; clear HK; clear HB; clear HI0; have BK345 := n0_; have HO348 := n1_; have HK := n2_; have HB := n3_; have HI0 := n4_; clear n0_ n1_ n2_ n3_ n4_; (try clear hb); (try clear hb2); (try clear hk); (try clear hi); (try clear ho0)) | ((with_reducible refine gate_dst (N := 3) rfl ?_); refine box_event ?hg (N := 3) ?hd (cs := #[.slice none 0 0]) (t := 40) ?hr ?_; (case hd => rfl); (case hg => rfl); (case hr => first | (go_simp; done) | (go_simp; rfl)); intro gb351 hg w7 hbox hb; have n0_ := Aside0.mk (Kd.R_below (zR HO348.out) hb); have n1_ := Aside0.mk (IsS92.below (by repeat (first | (with_reducible first | exact HI0.out | apply IsS92.alloc | apply IsS92.drewN | apply IsS92.drew | apply IsS92.set_1 | apply IsS92.set_2 | refine IsS92.far ?_ NB0_345.out _) | exact HI0.out)) hb); have n2_ := Aside0.mk (blk_below (g := gb345) (o := .cells #[.slice none 0 0] 40 (0, 0)) (zk BK345.out) hb); have n3_ := Aside0.mk (KeepBut.trans (by repeat (first | (with_reducible first | exact HK.out | apply KeepBut.set_ | apply keep_drewN | apply keep_drew | apply keep_alloc | refine keep_far ?_ GW345.out _) | exact HK.out)) (KeepBut.of_below hb g none) (.inl rfl)); have n4_ := Aside0.mk (below_step (by repeat (first | (with_reducible first | exact HB.out | apply below_alloc | apply pw_below_drewN | apply below_drew1 | refine below_set ?_ (IsS92.ge HI0.out) | refine below_set ?_ GE345.out) | exact HB.out)) hb); have n5_ := Aside0.mk (hbox); have n6_ := Aside0.mk ((by rw [hg]; exact (keep_size (w := w) (g := g) (row := none) (by repeat (first | (with_reducible first | exact HK.out | apply KeepBut.set_ | apply keep_drewN | apply keep_drew | apply keep_alloc | refine keep_far ?_ GW345.out _) | exact HK.out))) : w.heap.size ≤ gb351)); have n7_ := Aside0.mk ((Nat.le_trans HW0.out (by rw [hg]; exact (keep_size (w := w) (g := g) (row := none) (by repeat (first | (with_reducible first | exact HK.out | apply KeepBut.set_ | apply keep_drewN | apply keep_drew | apply keep_alloc | refine keep_far ?_ GW345.out _) | exact HK.out))) : w.heap.size ≤ gb351) : w0.heap.size ≤ gb351)); have n8_ := Aside0.mk ((by rw [hg]; exact Nat.ne_of_lt (blk_lt (g := gb345) (o := .cells #[.slice none 0 0] 40 (0, 0)) (zk BK345.out)) : gb345 ≠ gb351)); have n9_ := Aside0.mk ((by rw [hg]; exact Nat.ne_of_gt (blk_lt (g := gb345) (o := .cells #[.slice none 0 0] 40 (0, 0)) (zk BK345.out)) : gb351 ≠ gb345)); have n10_ := Aside0.mk ((by rw [hg]; exact Nat.ne_of_lt (IsS92.lt (show IsS92 w0 _ g s0_0 t349 t350 from by repeat (first | (with_reducible first | exact HI0.out | apply IsS92.alloc | apply IsS92.drewN | apply IsS92.drew | apply IsS92.set_1 | apply IsS92.set_2 | refine IsS92.far ?_ NB0_345.out _) | exact HI0.out))) : g ≠ gb351)); have n11_ := Aside0.mk ((by rw [hg]; exact Nat.ne_of_gt (IsS92.lt (show IsS92 w0 _ g s0_0 t349 t350 from by repeat (first | (with_reducible first | exact HI0.out | apply IsS92.alloc | apply IsS92.drewN | apply IsS92.drew | apply IsS92.set_1 | apply IsS92.set_2 | refine IsS92.far ?_ NB0_345.out _) | exact HI0.out))) : gb351 ≠ g)); clear HO348; clear HI0; clear BK345; clear HK; clear HB; have HO348 := n0_; have HI0 := n1_; have BK345 := n2_; have HK := n3_; have HB := n4_; have BK351 := n5_; have GW351 := n6_; have GE351 := n7_; have NB345_351 := n8_; have NB351_345 := n9_; have NB0_351 := n10_; have NB351_0 := n11_; clear n0_ n1_ n2_ n3_ n4_ n5_ n6_ n7_ n8_ n9_ n10_ n11_; clear hb hbox hg; obtain ⟨Ao8, co8, eo8⟩ := Kd.R_slice HO348.out; subst eo8; have hnb9 := NB351_345.out; have hnc9 := NB345_351.out; have hnb10 := NB351_0.out; have hnc10 := NB0_351.out; have hcz11_0 : w7.cell? ⟨gb351, 0, none⟩ = some (.slice none 0 0) := (blk_cell BK351.out 0).trans rfl; have hfz11_0 := blk_frozen BK351.out 0) | ((with_reducible refine gate_callee (f := 118) rfl ?_); refine goesL_ (some 7) rfl rfl Try.func118 (by kernel_rfl) rfl #[.pointer (some ⟨g, 0, none⟩), .int .i64 12] rfl (by (try simp only [za, zc, zn]); first | done | rfl) ?_; (with_reducible refine (spec_l1Below.calls g s0_0 t349 t350 12 t352 t353 t354 w0 _ ?side1 ?side2 A3.out).mono ?_); (case side1 => repeat (first | (with_reducible first | exact HI0.out | apply IsS92.alloc | apply IsS92.drewN | apply IsS92.drew | apply IsS92.set_1 | apply IsS92.set_2 | refine IsS92.far ?_ NB0_345.out _ | refine IsS92.far ?_ NB0_351.out _) | exact HI0.out)); (case side2 => repeat (first | (with_reducible first | exact HB.out | apply below_alloc | apply pw_below_drewN | apply below_drew1 | refine below_set ?_ (IsS92.ge HI0.out) | refine below_set ?_ GE345.out | refine below_set ?_ GE351.out) | exact HB.out)); rintro e w12 ⟨rfl, hi, hb, hk⟩; refine ⟨_, rfl, ?_⟩; have n0_ := Aside0.mk (KeepBut.blk hk (g' := gb345) (o := .cells #[.slice none 0 0] 40 (0, 0)) (by (with_reducible repeat (first | refine blk_drewN ?_ _ | refine blk_drew ?_ | refine blk_alloc ?_ _)); refine blk_far ?_ NB345_351.out _; (with_reducible repeat (first | refine blk_drewN ?_ _ | refine blk_drew ?_ | refine blk_alloc ?_ _)); exact BK345.out) NB345_0.out (by simp)); have n1_ := Aside0.mk (Kd.R_mono (Kd.R_keep (IsS92.apart (show IsS92 w0 _ g s0_0 t349 t350 from by repeat (first | (with_reducible first | exact HI0.out | apply IsS92.alloc | apply IsS92.drewN | apply IsS92.drew | apply IsS92.set_1 | apply IsS92.set_2 | refine IsS92.far ?_ NB0_345.out _ | refine IsS92.far ?_ NB0_351.out _) | exact HI0.out)) (zR ((Kd.R_mono (Kd.R_far (p := ⟨gb351, 0, none⟩) (Kd.R_types HO348.out BK351.out (by decide)) (fun _ hk => hk.2) (.slice Ao8 t346.length co8)) (fun _ h_ => h_.1)))) (by decide)) hk (fun _ h => h.2)) (fun _ h => h.1)); have n2_ := Aside0.mk (KeepBut.blk hk (g' := gb351) (o := .cells #[.slice Ao8 t346.length co8] 40 (0, 0)) (by (with_reducible repeat (first | refine blk_drewN ?_ _ | refine blk_drew ?_ | refine blk_alloc ?_ _)); refine blk_put (cs := #[.slice none 0 0]) ?_ 0 _ rfl; (with_reducible repeat (first | refine blk_drewN ?_ _ | refine blk_drew ?_ | refine blk_alloc ?_ _)); exact BK351.out) NB351_0.out (by simp)); have n3_ := Aside0.mk (KeepBut.trans (by repeat (first | (with_reducible first | exact HK.out | apply KeepBut.set_ | apply keep_drewN | apply keep_drew | apply keep_alloc | refine keep_far ?_ GW345.out _ | refine keep_far ?_ GW351.out _) | exact HK.out)) hk (.inl rfl)); have n4_ := Aside0.mk (hb); have n5_ := Aside0.mk (hi); clear BK345; clear HO348; clear BK351; clear HK; clear HB; clear HI0; have BK345 := n0_; have HO348 := n1_; have BK351 := n2_; have HK := n3_; have HB := n4_; have HI0 := n5_; clear n0_ n1_ n2_ n3_ n4_ n5_; (try clear hb); (try clear hb2); (try clear hk); (try clear hi)))
 (try simp only [Act.put, List.setIfInBounds_toArray, List.set_cons_zero, List.set_cons_succ])
 have H := HU4.out
 clear HU4
 by_cases c13 : t352 = 0
 ·rw [if_pos c13] at H
  have c13b0 : (t352 == 0) = true := beq_iff_eq.mpr c13
  have c13b1 : (t352 != 0) = false := bne_eq_false_iff_eq.mpr c13
  clear c13
  (first | rw [c13b0] | rw [c13b1] | (simp only [i64_w, i32_w]; rw [c13b0]) | skip)
  obtain ⟨y355, Ny355⟩ : ∃ y_ : List Int, Aside0 (y_ = (([0, 61, 12, (-3), 60] : List Int))) := ⟨_, ⟨rfl⟩⟩
  (try rw [Option.bind_some] at H)
  (try rw [← Ny355.out] at H)
  obtain ⟨⟨t358, t359, t360⟩, A14, H⟩ := zb H
  (try dsimp only at H)
  obtain ⟨c15, H⟩ := zi H
  have LMc15 := Aside0.mk c15
  clear c15
  obtain ⟨y361, Ny361⟩ : ∃ y_ : List Int, Aside0 (y_ = (t346 ++ [t358])) := ⟨_, ⟨rfl⟩⟩
  (try rw [Option.bind_some] at H)
  (try rw [← Ny361.out] at H)
  simp only [Option.some.injEq, Prod.mk.injEq] at H
  obtain ⟨rfl, rfl, rfl⟩ := H
  try go_wp2
  have n0_ := Aside0.mk (Kd.R_drew HO348.out)
  have n1_ := Aside0.mk (blk_drew BK345.out)
  have n2_ := Aside0.mk (blk_drew BK351.out)
  have n3_ := Aside0.mk (IsS92.drew HI0.out)
  have n4_ := Aside0.mk (keep_drew HK.out)
  have n5_ := Aside0.mk (below_drew1 HB.out)
  clear HO348
  clear BK345
  clear BK351
  clear HI0
  clear HK
  clear HB
  have HO348 := n0_
  have BK345 := n1_
  have BK351 := n2_
  have HI0 := n3_
  have HK := n4_
  have HB := n5_
  clear n0_ n1_ n2_ n3_ n4_ n5_
  refine start_ (n := 9) (S := fun w' => w'.cell? ⟨gb351, 0, none⟩ = some (.slice Ao8 t346.length co8)) (ds := [8]) bA6 (by kernel_rfl) rfl rfl ((blk_cell BK351.out 0).trans rfl) (fun hHeld => ?_); refine with_tabW spec_l3Bent.tab4 spec_l3Bent.bits4 (fun HT_ HW_ => ?_)
  generalize w12.drew = w16 at HO348 BK345 BK351 HI0 HK HB hHeld ⊢
  refine pure_ (i := 0) (N := some 10) (v := ?_) (a' := ?_) #[true, false, false, false, false, false, false, false, false] rfl rfl (any_of HT_.out (by kernel_rfl)) (fun _ _ _ h => h) (Or.inl ⟨by rfl, ?_⟩) ?_ ?_
  rotate_left
  ·intro w'
   go_simp
   with_reducible rfl
  rotate_left
  ·simp only [Act.put, qA, qB, qC, i64_w, i32_w]
   rfl
  refine pure_ (i := 2) (N := some 12) (v := ?_) (a' := ?_) #[true, false, true, false, false, false, false, false, false] rfl rfl (any_of HT_.out (by kernel_rfl)) (fun _ _ _ h => h) (Or.inl ⟨by rfl, ?_⟩) ?_ ?_
  rotate_left
  ·intro w'
   go_simp
   with_reducible rfl
  rotate_left
  ·simp only [Act.put, qA, qB, qC, i64_w, i32_w]
   rfl
  refine take_ (i := 1) (N := some 11) (v := ?_) (a' := ?_) #[true, true, true, false, false, false, false, false, false] rfl rfl (take_ofW HT_.out HW_.out (by kernel_rfl)) (fun _ _ _ h => h) (Or.inl ⟨by rfl, ?_⟩) hHeld ?_ ?_
  rotate_left
  ·intro w' s0
   go_simp
   with_reducible rfl
  rotate_left
  ·simp only [Act.put, qA, qB, qC, i64_w, i32_w]
   rfl
  refine one_ (i := 3) (N := some 13) #[true, true, true, true, false, false, false, false, false] rfl rfl (one_of HT_.out (by kernel_rfl)) (by decide) (fun K hK => ?_)
  refine Kd.R_lit_step (Kd.int .i64) _ 3 ?hg (N := 13) ?hd (xs := ([0, 61, 12, (-3), 60] : List Int)) (inner := [.int .i64 0, .int .i64 61, .int .i64 12, .int .i64 (-3), .int .i64 60]) (ok := fun _ => True) (okp := fun _ => True) ?hr ?hp (fun _ hk => hk) trivial (Below.refl _ _) (Nat.le_refl _) (by simp) ?_; (case hd => rfl); (case hg => rfl); (case hr => first | (go_simp; done) | (go_simp; rfl)); (case hp => exact (Reps.one (show Kd.M (Kd.int .i64) _ _ _ 0 [.int .i64 0] from rfl) (Reps.one (show Kd.M (Kd.int .i64) _ _ _ 61 [.int .i64 61] from rfl) (Reps.one (show Kd.M (Kd.int .i64) _ _ _ 12 [.int .i64 12] from rfl) (Reps.one (show Kd.M (Kd.int .i64) _ _ _ (-3) [.int .i64 (-3)] from rfl) (Reps.one (show Kd.M (Kd.int .i64) _ _ _ 60 [.int .i64 60] from rfl) (Reps.none _ _)))))))
  intro v356 w17 ho18 hb hg_ hnew_
  clear hg_ hnew_
  (first | rw [← Ny355.out] at ho18 | (simp only [Int.reduceToNat] at ho18; rw [← Ny355.out] at ho18))
  have n0_ := Aside0.mk (Kd.R_elder' (zR HO348.out) (Kd.R_base ho18) hb)
  have n1_ := Aside0.mk (Kd.R_lower (Kd.R_new' ho18 (Kd.R_lt (zR HO348.out))) (keep_size (w := w) (g := g) (row := none) (by repeat (first | (with_reducible first | exact HK.out | apply KeepBut.set_ | apply keep_drewN | apply keep_drew | apply keep_alloc | refine keep_far ?_ GW345.out _ | refine keep_far ?_ GW351.out _) | exact HK.out))))
  have n2_ := Aside0.mk (IsS92.below (by repeat (first | (with_reducible first | exact HI0.out | apply IsS92.alloc | apply IsS92.drewN | apply IsS92.drew | apply IsS92.set_1 | apply IsS92.set_2 | refine IsS92.far ?_ NB0_345.out _ | refine IsS92.far ?_ NB0_351.out _) | exact HI0.out)) hb)
  have n3_ := Aside0.mk (blk_below (g := gb345) (o := .cells #[.slice none 0 0] 40 (0, 0)) (zk BK345.out) hb)
  have n4_ := Aside0.mk (blk_below (g := gb351) (o := .cells #[.slice Ao8 t346.length co8] 40 (0, 0)) (zk BK351.out) hb)
  have n5_ := Aside0.mk (KeepBut.trans (by repeat (first | (with_reducible first | exact HK.out | apply KeepBut.set_ | apply keep_drewN | apply keep_drew | apply keep_alloc | refine keep_far ?_ GW345.out _ | refine keep_far ?_ GW351.out _) | exact HK.out)) (KeepBut.of_below hb g none) (.inl rfl))
  have n6_ := Aside0.mk (below_step (by repeat (first | (with_reducible first | exact HB.out | apply below_alloc | apply pw_below_drewN | apply below_drew1 | refine below_set ?_ (IsS92.ge HI0.out) | refine below_set ?_ GE345.out | refine below_set ?_ GE351.out) | exact HB.out)) hb)
  clear HO348
  clear HI0
  clear BK345
  clear BK351
  clear HK
  clear HB
  have HO348 := n0_
  have HO357 := n1_
  have HI0 := n2_
  have BK345 := n3_
  have BK351 := n4_
  have HK := n5_
  have HB := n6_
  clear n0_ n1_ n2_ n3_ n4_ n5_ n6_
  clear hb ho18
  obtain ⟨Ao19, co19, eo19⟩ := Kd.R_slice HO357.out
  (first | subst eo19 | (injection eo19 with f1_ f2_ f3_; have f4_ := f1_.symm; have f5_ := f3_.symm; clear f1_ f2_ f3_; subst f4_; subst f5_))
  refine hK.out _ _ ((blk_cell BK351.out 0).trans rfl) (fun hHeld => ?_)
  clear hK K
  refine norm_ (a' := ?_) ?_ ?_
  rotate_left
  ·show Act.put _ (some 13) _ = _
   simp only [Act.put, qA, qB, qC, i64_w, i32_w]
   rfl
  refine one_ (i := 4) (N := some 14) #[true, true, true, true, true, false, false, false, false] rfl rfl (one_of HT_.out (by kernel_rfl)) (by decide) (fun K hK => ?_)
  refine goes_ Try.func110 (by kernel_rfl) rfl #[.pointer (some ⟨g, 0, none⟩), .slice Ao19 y355.length co19] (by rfl) rfl rfl (by (try simp only [za, zc, zn]); first | done | rfl) ?_
  with_reducible refine (spec_l1PickInt.calls g s0_0 t353 t354 _ _ y355 t358 t359 t360 w0 _ ?side1 ?side2 ?side3 ?side4 ?side5 A14.out).mono ?_
  (case side1 => repeat (first | (with_reducible first | exact HI0.out | apply IsS92.alloc | apply IsS92.drewN | apply IsS92.drew | apply IsS92.set_1 | apply IsS92.set_2 | refine IsS92.far ?_ NB0_345.out _ | refine IsS92.far ?_ NB0_351.out _) | exact HI0.out))
  (case side2 => repeat (first | (with_reducible first | exact HB.out | apply below_alloc | apply pw_below_drewN | apply below_drew1 | refine below_set ?_ (IsS92.ge HI0.out) | refine below_set ?_ GE345.out | refine below_set ?_ GE351.out) | exact HB.out))
  (case side3 => repeat (first | exact (Kd.R_reads' HO357.out).2.2 | (with_reducible refine Kd.C_alloc ?_ _) | (with_reducible refine Kd.C_drewN ?_ _) | (with_reducible refine Kd.C_drew ?_)))
  (case side4 => exact (Kd.R_reads' HO357.out).2.1)
  (case side5 => exact far_slice (IsS92.own_ne HI0.out HO357.out (by decide)))
  rintro e w20 ⟨rfl, hi, hb, hk⟩
  refine ⟨_, rfl, ?_⟩
  have n0_ := Aside0.mk (KeepBut.blk hk (g' := gb345) (o := .cells #[.slice none 0 0] 40 (0, 0)) (zk BK345.out) NB345_0.out (by simp))
  have n1_ := Aside0.mk (Kd.R_mono (Kd.R_keep (IsS92.apart (show IsS92 w0 _ g s0_0 t353 t354 from by repeat (first | (with_reducible first | exact HI0.out | apply IsS92.alloc | apply IsS92.drewN | apply IsS92.drew | apply IsS92.set_1 | apply IsS92.set_2 | refine IsS92.far ?_ NB0_345.out _ | refine IsS92.far ?_ NB0_351.out _) | exact HI0.out)) (zR HO348.out) (by decide)) hk (fun _ h => h.2)) (fun _ h => h.1))
  have n2_ := Aside0.mk (KeepBut.blk hk (g' := gb351) (o := .cells #[.slice Ao8 t346.length co8] 40 (0, 0)) (zk BK351.out) NB351_0.out (by simp))
  have n3_ := Aside0.mk (Kd.R_mono (Kd.R_keep (IsS92.apart (show IsS92 w0 _ g s0_0 t353 t354 from by repeat (first | (with_reducible first | exact HI0.out | apply IsS92.alloc | apply IsS92.drewN | apply IsS92.drew | apply IsS92.set_1 | apply IsS92.set_2 | refine IsS92.far ?_ NB0_345.out _ | refine IsS92.far ?_ NB0_351.out _) | exact HI0.out)) (zR HO357.out) (by decide)) hk (fun _ h => h.2)) (fun _ h => h.1))
  have n4_ := Aside0.mk (KeepBut.trans (by repeat (first | (with_reducible first | exact HK.out | apply KeepBut.set_ | apply keep_drewN | apply keep_drew | apply keep_alloc | refine keep_far ?_ GW345.out _ | refine keep_far ?_ GW351.out _) | exact HK.out)) hk (.inl rfl))
  have n5_ := Aside0.mk (hb)
  have n6_ := Aside0.mk (hi)
  clear BK345
  clear HO348
  clear BK351
  clear HO357
  clear HK
  clear HB
  clear HI0
  have BK345 := n0_
  have HO348 := n1_
  have BK351 := n2_
  have HO357 := n3_
  have HK := n4_
  have HB := n5_
  have HI0 := n6_
  clear n0_ n1_ n2_ n3_ n4_ n5_ n6_
  (try clear hb)
  (try clear hb2)
  (try clear hk)
  (try clear hi)
  refine hK.out _ _ ((blk_cell BK351.out 0).trans rfl) (fun hHeld => ?_)
  clear hK K
  refine norm_ (a' := ?_) ?_ ?_
  rotate_left
  ·show Act.put _ (some 14) _ = _
   simp only [Act.put, qA, qB, qC, i64_w, i32_w]
   rfl
  refine one_ (i := 5) (N := some 15) #[true, true, true, true, true, true, false, false, false] rfl rfl (one_of HT_.out (by kernel_rfl)) (by decide) (fun K hK => ?_)
  refine value_ (w1 := ?_) (v := ?_) (by rfl) rfl ?_ ?_
  rotate_left 2
  ·go_simp
   constructor
   ·rfl
   ·rfl
  refine hK.out _ _ ((blk_cell (blk_alloc BK351.out _) 0).trans rfl) (fun hHeld => ?_)
  clear hK K
  refine norm_ (a' := ?_) ?_ ?_
  rotate_left
  ·show Act.put _ (some 15) _ = _
   simp only [Act.put, qA, qB, qC, i64_w, i32_w]
   rfl
  refine one_ (i := 6) (N := some 16) bA55 rfl rfl (one_of HT_.out (by kernel_rfl)) (by decide) (fun K hK => ?_)
  refine Kd.R_append_step (Kd.int .i64) w.heap.size (by rfl) (.tmp 11) (.tmp 15) 33 3 (.int .i64 0) 8 rfl Try.underlying33 info3 rfl (by decide) (by omega) (.slice Ao8 t346.length co8) t346 t358 [.int .i64 t358] (fun k_ => some k_ ≠ (.slice Ao19 y355.length co19 : Value).ownBlock) (fun _ => False) rfl rfl ?aP (fun _ hk => hk.elim) ?aF ?aO (Below.refl _ _) ?aS ?aL ?_
  (case aP => exact rfl)
  (case aF => exact (fun k_ hk => Kd.fresh' (Kd.R_lt (zR HO357.out)) k_ hk))
  (case aO => exact (zR (Kd.R_mono HO348.out (fun _ hk => hk.2))))
  (case aS => exact (keep_size (w := w) (g := g) (row := none) (by repeat (first | (with_reducible first | exact HK.out | apply KeepBut.set_ | apply keep_drewN | apply keep_drew | apply keep_alloc | refine keep_far ?_ GW345.out _ | refine keep_far ?_ GW351.out _) | exact HK.out))))
  (case aL => have := LMc15.out; omega)
  intro v362 w21 ho hb hg hat
  rw [← Ny361.out] at ho
  have n0_ := Aside0.mk (IsS92.grown (by repeat (first | (with_reducible first | exact HI0.out | apply IsS92.alloc | apply IsS92.drewN | apply IsS92.drew | apply IsS92.set_1 | apply IsS92.set_2 | refine IsS92.far ?_ NB0_345.out _ | refine IsS92.far ?_ NB0_351.out _) | exact HI0.out)) hg (IsS92.own_ne HI0.out HO348.out (by decide)))
  have n1_ := Aside0.mk (blk_grown (g := gb345) (o := .cells #[.slice none 0 0] 40 (0, 0)) (zk BK345.out) hg (Kd.R_ne HO348.out BK345.out (by decide)))
  have n2_ := Aside0.mk (blk_grown (g := gb351) (o := .cells #[.slice Ao8 t346.length co8] 40 (0, 0)) (zk BK351.out) hg (Kd.R_ne HO348.out BK351.out (by decide)))
  have n3_ := Aside0.mk (Kd.R_after (ok := (fun _ => True)) (zR HO357.out) hg hat)
  have n4_ := Aside0.mk (below_weaken (by repeat (first | (with_reducible first | exact HB.out | apply below_alloc | apply pw_below_drewN | apply below_drew1 | refine below_set ?_ (IsS92.ge HI0.out) | refine below_set ?_ GE345.out | refine below_set ?_ GE351.out) | exact HB.out)) HL.out hb)
  have n5_ := Aside0.mk (KeepBut.trans (by repeat (first | (with_reducible first | exact HK.out | apply KeepBut.set_ | apply keep_drewN | apply keep_drew | apply keep_alloc | refine keep_far ?_ GW345.out _ | refine keep_far ?_ GW351.out _) | exact HK.out)) (KeepBut.of_grown hg g) (Kd.R_base2 HO348.out))
  have n6_ := Aside0.mk (ho)
  clear HI0
  clear BK345
  clear BK351
  clear HO357
  clear HB
  clear HK
  clear HO348
  have HI0 := n0_
  have BK345 := n1_
  have BK351 := n2_
  have HO357 := n3_
  have HB := n4_
  have HK := n5_
  have HO363 := n6_
  clear n0_ n1_ n2_ n3_ n4_ n5_ n6_
  clear ho hb hg hat
  obtain ⟨Ao22, co22, eo22⟩ := Kd.R_slice HO363.out
  (first | subst eo22 | (injection eo22 with f1_ f2_ f3_; have f4_ := f1_.symm; have f5_ := f3_.symm; clear f1_ f2_ f3_; subst f4_; subst f5_))
  refine hK.out _ _ ((blk_cell BK351.out 0).trans rfl) (fun hHeld => ?_)
  clear hK K
  refine norm_ (a' := ?_) ?_ ?_
  rotate_left
  ·show Act.put _ (some 16) _ = _
   simp only [Act.put, qA, qB, qC, i64_w, i32_w]
   rfl
  refine pure_ (i := 7) (N := some 17) (v := ?_) (a' := ?_) bA64 rfl rfl (any_of HT_.out (by kernel_rfl)) (fun _ _ _ h => h) (Or.inl ⟨by rfl, ?_⟩) ?_ ?_
  rotate_left
  ·intro w'
   go_simp
   with_reducible rfl
  rotate_left
  ·simp only [Act.put, qA, qB, qC, i64_w, i32_w]
   rfl
  refine last_ (i := 8) (N := none) bA117 rfl rfl (one_of HT_.out (by kernel_rfl)) (by decide) (fun K hK => ?_)
  have hs23 : w21.cell? ⟨gb351, 0, none⟩ = some (.slice Ao8 t346.length co8) := (blk_cell BK351.out 0).trans rfl
  have hfs23 := blk_frozen BK351.out 0
  have hns23_0 := NB345_351.out
  have hms23_0 := NB351_345.out
  refine skip_ (w1 := ?_) (by rfl) rfl ?_ ?_
  rotate_left
  ·go_simp
   rfl
  refine hK.out _ _ ?_
  clear hK K
  refine done_ (done_of HT_.out (by kernel_rfl)) ?_
  have hnb24 := NB351_345.out
  have hnc24 := NB345_351.out
  have hnb25 := NB351_0.out
  have hnc25 := NB0_351.out
  have hcz26_0 : w21.cell? ⟨gb351, 0, none⟩ = some (.slice Ao8 t346.length co8) := (blk_cell BK351.out 0).trans rfl
  have hfz26_0 := blk_frozen BK351.out 0
  have hnb27 := NB345_0.out
  have hnc27 := NB0_345.out
  have hcz28_0 : w21.cell? ⟨gb345, 0, none⟩ = some (.slice none 0 0) := (blk_cell BK345.out 0).trans rfl
  have hfz28_0 := blk_frozen BK345.out 0
  try go_wp2
  refine bodyPost_ret (results_cell_row rfl _ _ gb345 40 #[.slice Ao22 y361.length co22] (0, 0) _ rfl (by (with_reducible repeat (first | refine blk_drewN ?_ _ | refine blk_drew ?_ | refine blk_alloc ?_ _)); refine blk_put (cs := #[.slice none 0 0]) ?_ 0 _ rfl; (with_reducible repeat (first | refine blk_drewN ?_ _ | refine blk_drew ?_ | refine blk_alloc ?_ _)); refine blk_far ?_ NB345_351.out _; (with_reducible repeat (first | refine blk_drewN ?_ _ | refine blk_drew ?_ | refine blk_alloc ?_ _)); exact BK345.out) Try.underlying40 rfl (by kernel_rfl)) rfl ?_
  exact ⟨_, by first | rfl | (simp [errW_none, errW_some] <;> rfl) | (simp [*, errW_none, errW_some] <;> rfl), Kd.Q_of_R (zR (Kd.R_mono (Kd.R_far (p := ⟨gb345, 0, none⟩) (Kd.R_far (p := ⟨gb351, 0, none⟩) (Kd.R_types (Kd.R_types HO363.out BK351.out (by decide)) BK345.out (by decide)) (fun _ hk => hk.1.2) (.slice Ao22 y361.length co22)) (fun _ hk => hk.2) (.slice Ao22 y361.length co22)) (fun _ hk => trivial))), by repeat (first | (with_reducible first | exact HI0.out | apply IsS92.alloc | apply IsS92.drewN | apply IsS92.drew | apply IsS92.set_1 | apply IsS92.set_2 | refine IsS92.far ?_ NB0_345.out _ | refine IsS92.far ?_ NB0_351.out _) | exact HI0.out), by repeat (first | (with_reducible first | exact HB.out | apply below_alloc | apply pw_below_drewN | apply below_drew1 | refine below_set ?_ (IsS92.ge HI0.out) | refine below_set ?_ GE345.out | refine below_set ?_ GE351.out) | exact HB.out), by repeat (first | (with_reducible first | exact HK.out | apply KeepBut.set_ | apply keep_drewN | apply keep_drew | apply keep_alloc | refine keep_far ?_ GW345.out _ | refine keep_far ?_ GW351.out _) | exact HK.out)⟩
 ·rw [if_neg c13] at H
  have c13b0 : (t352 == 0) = false := beq_eq_false_iff_ne.mpr c13
  have c13b1 : (t352 != 0) = true := bne_iff_ne.mpr c13
  (first | rw [c13b0] | rw [c13b1] | (simp only [i64_w, i32_w]; rw [c13b0]) | skip)
  by_cases c29 : t352 = 1
  ·rw [if_pos c29] at H
   have c29b0 : (t352 == 1) = true := beq_iff_eq.mpr c29
   have c29b1 : (t352 != 1) = false := bne_eq_false_iff_eq.mpr c29
   clear c29
   obtain ⟨c30, H⟩ := zi H
   have c30b0 := eq_true c30
   have c30b1 : decide (1 ≤ (t346.length : Int)) = true := decide_eq_true c30
   clear c30
   obtain ⟨y364, Ny364⟩ : ∃ y_ : List Int, Aside0 (y_ = (t346.drop (1 : Int).toNat)) := ⟨_, ⟨rfl⟩⟩
   (try rw [Option.bind_some] at H)
   (try rw [← Ny364.out] at H)
   simp only [Option.some.injEq, Prod.mk.injEq] at H
   obtain ⟨rfl, rfl, rfl⟩ := H
   have hnb31 := NB351_345.out
   have hnc31 := NB345_351.out
   have hnb32 := NB351_0.out
   have hnc32 := NB0_351.out
   have hcz33_0 : w12.cell? ⟨gb351, 0, none⟩ = some (.slice Ao8 t346.length co8) := (blk_cell BK351.out 0).trans rfl
   have hfz33_0 := blk_frozen BK351.out 0
   have q34 : (1 : Int) ≤ ((t346.length : Int) : Int) := of_decide_eq_true (by assumption)
   obtain ⟨i034, hi034, _, hsz34, _⟩ := info_parts info3
   have hcut34 := cut_from (P := Try.prog) 33 3 .i64 Try.underlying33 hi034 1 hsz34 Ao8 t346.length co8 1 (by omega) q34
   have hr34 := Kd.Q_drop (k := (1 : Int).toNat) (Kd.Q_of_R HO348.out) (by omega)
   obtain ⟨A34, hA34⟩ : ∃ A1, A1 = (if co8 = (1 : Int).toNat then Ao8 else (Ao8 : Option Addr).map (·.add ((1 : Int).toNat * 1))) := ⟨_, rfl⟩
   obtain ⟨c34, hc34⟩ : ∃ c1, c1 = co8 - (1 : Int).toNat := ⟨_, rfl⟩
   have hy34 : y364.length = t346.length - (1 : Int).toNat := (by rw [Ny364.out, List.length_drop])
   rw [← Ny364.out] at hr34
   rw [← hy34, ← hA34, ← hc34] at hcut34
   replace hr34 : Kd.Q (Kd.int .i64) 3 w12 w.heap.size (fun _ => True) (.slice A34 y364.length c34) y364 := (by rw [hA34, hc34, hy34]; exact hr34)
   have HE34 : Aside0 ((Value.slice A34 y364.length c34).ownBlock = (.slice Ao8 t346.length co8 : Value).ownBlock) := ⟨by rw [hA34]; split <;> (cases (Ao8 : Option Addr) <;> rfl)⟩
   clear hy34 hi034 hsz34 HO348 hA34 hc34
   have HO366 := Aside0.mk hr34
   clear hr34
   replace q34 := eq_true q34
   have hnb35 := NB345_0.out
   have hnc35 := NB0_345.out
   have hcz36_0 : w12.cell? ⟨gb345, 0, none⟩ = some (.slice none 0 0) := (blk_cell BK345.out 0).trans rfl
   have hfz36_0 := blk_frozen BK345.out 0
   go_wp2
   refine bodyPost_ret (results_cell_row rfl _ _ gb345 40 #[.slice A34 y364.length c34] (0, 0) _ rfl (by (with_reducible repeat (first | refine blk_drewN ?_ _ | refine blk_drew ?_ | refine blk_alloc ?_ _)); refine blk_put (cs := #[.slice none 0 0]) ?_ 0 _ rfl; (with_reducible repeat (first | refine blk_drewN ?_ _ | refine blk_drew ?_ | refine blk_alloc ?_ _)); refine blk_far ?_ NB345_351.out _; (with_reducible repeat (first | refine blk_drewN ?_ _ | refine blk_drew ?_ | refine blk_alloc ?_ _)); exact BK345.out) Try.underlying40 rfl (by kernel_rfl)) rfl ?_
   exact ⟨_, by first | rfl | (simp [errW_none, errW_some] <;> rfl) | (simp [*, errW_none, errW_some] <;> rfl), zQ (Kd.Q_mono (Kd.Q_far (p := ⟨gb345, 0, none⟩) (Kd.Q_far (p := ⟨gb351, 0, none⟩) (Kd.Q_types (Kd.Q_types HO366.out BK351.out (by decide)) BK345.out (by decide)) (fun _ hk => hk.1.2) (.slice A34 y364.length c34)) (fun _ hk => hk.2) (.slice A34 y364.length c34)) (fun _ hk => trivial)), by repeat (first | (with_reducible first | exact HI0.out | apply IsS92.alloc | apply IsS92.drewN | apply IsS92.drew | apply IsS92.set_1 | apply IsS92.set_2 | refine IsS92.far ?_ NB0_345.out _ | refine IsS92.far ?_ NB0_351.out _) | exact HI0.out), by repeat (first | (with_reducible first | exact HB.out | apply below_alloc | apply pw_below_drewN | apply below_drew1 | refine below_set ?_ (IsS92.ge HI0.out) | refine below_set ?_ GE345.out | refine below_set ?_ GE351.out) | exact HB.out), by repeat (first | (with_reducible first | exact HK.out | apply KeepBut.set_ | apply keep_drewN | apply keep_drew | apply keep_alloc | refine keep_far ?_ GW345.out _ | refine keep_far ?_ GW351.out _) | exact HK.out)⟩
  ·rw [if_neg c29] at H
   have c29b0 : (t352 == 1) = false := beq_eq_false_iff_ne.mpr c29
   have c29b1 : (t352 != 1) = true := bne_iff_ne.mpr c29
   by_cases c37 : t352 = 2
   ·rw [if_pos c37] at H
    have c37b0 : (t352 == 2) = true := beq_iff_eq.mpr c37
    have c37b1 : (t352 != 2) = false := bne_eq_false_iff_eq.mpr c37
    clear c37
    obtain ⟨y367, Ny367⟩ : ∃ y_ : List Int, Aside0 (y_ = (([0, 59, 4] : List Int))) := ⟨_, ⟨rfl⟩⟩
    (try rw [Option.bind_some] at H)
    (try rw [← Ny367.out] at H)
    obtain ⟨⟨t370, t371, t372⟩, A38, H⟩ := zb H
    (try dsimp only at H)
    obtain ⟨y373, Ny373⟩ : ∃ y_ : List Int, Aside0 (y_ = (([t370, 60] : List Int))) := ⟨_, ⟨rfl⟩⟩
    (try rw [Option.bind_some] at H)
    (try rw [← Ny373.out] at H)
    simp only [Option.some.injEq, Prod.mk.injEq] at H
    obtain ⟨rfl, rfl, rfl⟩ := H
    go_wp2_with (first | ((with_reducible refine gate_dst (N := 27) rfl ?_); refine Kd.R_lit (Kd.int .i64) _ 3 ?hg (N := 27) ?hd (xs := ([0, 59, 4] : List Int)) (inner := [.int .i64 0, .int .i64 59, .int .i64 4]) (ok := fun _ => True) (okp := fun _ => True) ?hr ?hp (fun _ hk => hk) trivial (Below.refl _ _) (Nat.le_refl _) (by simp) ?_; (case hd => rfl); (case hg => rfl); (case hr => first | (go_simp; done) | (go_simp; rfl)); (case hp => exact (Reps.one (show Kd.M (Kd.int .i64) _ _ _ 0 [.int .i64 0] from rfl) (Reps.one (show Kd.M (Kd.int .i64) _ _ _ 59 [.int .i64 59] from rfl) (Reps.one (show Kd.M (Kd.int .i64) _ _ _ 4 [.int .i64 4] from rfl) (Reps.none _ _))))); intro v368 w39 ho40 hb hg_ hnew_; clear hg_ hnew_; (first | rw [← Ny367.out] at ho40 | (simp only [Int.reduceToNat] at ho40; rw [← Ny367.out] at ho40)); have n0_ := Aside0.mk (Kd.R_elder' (zR HO348.out) (Kd.R_base ho40) hb); have n1_ := Aside0.mk (Kd.R_lower (Kd.R_new' ho40 (Kd.R_lt (zR HO348.out))) (keep_size (w := w) (g := g) (row := none) (by repeat (first | (with_reducible first | exact HK.out | apply KeepBut.set_ | apply keep_drewN | apply keep_drew | apply keep_alloc | refine keep_far ?_ GW345.out _ | refine keep_far ?_ GW351.out _) | exact HK.out)))); have n2_ := Aside0.mk (IsS92.below (by repeat (first | (with_reducible first | exact HI0.out | apply IsS92.alloc | apply IsS92.drewN | apply IsS92.drew | apply IsS92.set_1 | apply IsS92.set_2 | refine IsS92.far ?_ NB0_345.out _ | refine IsS92.far ?_ NB0_351.out _) | exact HI0.out)) hb); have n3_ := Aside0.mk (blk_below (g := gb345) (o := .cells #[.slice none 0 0] 40 (0, 0)) (zk BK345.out) hb); have n4_ := Aside0.mk (blk_below (g := gb351) (o := .cells #[.slice Ao8 t346.length co8] 40 (0, 0)) (zk BK351.out) hb); have n5_ := Aside0.mk (KeepBut.trans (by repeat (first | (with_reducible first | exact HK.out | apply KeepBut.set_ | apply keep_drewN | apply keep_drew | apply keep_alloc | refine keep_far ?_ GW345.out _ | refine keep_far ?_ GW351.out _) | exact HK.out)) (KeepBut.of_below hb g none) (.inl rfl)); have n6_ := Aside0.mk (below_step (by repeat (first | (with_reducible first | exact HB.out | apply below_alloc | apply pw_below_drewN | apply below_drew1 | refine below_set ?_ (IsS92.ge HI0.out) | refine below_set ?_ GE345.out | refine below_set ?_ GE351.out) | exact HB.out)) hb); clear HO348; clear HI0; clear BK345; clear BK351; clear HK; clear HB; have HO348 := n0_; have HO369 := n1_; have HI0 := n2_; have BK345 := n3_; have BK351 := n4_; have HK := n5_; have HB := n6_; clear n0_ n1_ n2_ n3_ n4_ n5_ n6_; clear hb ho40; obtain ⟨Ao41, co41, eo41⟩ := Kd.R_slice HO369.out; subst eo41) | ((with_reducible refine gate_callee (f := 110) rfl ?_); refine goesL_ (some 28) rfl rfl Try.func110 (by kernel_rfl) rfl #[.pointer (some ⟨g, 0, none⟩), .slice Ao41 y367.length co41] rfl (by (try simp only [za, zc, zn]); first | done | rfl) ?_; (with_reducible refine (spec_l1PickInt.calls g s0_0 t353 t354 _ _ y367 t370 t371 t372 w0 _ ?side1 ?side2 ?side3 ?side4 ?side5 A38.out).mono ?_); (case side1 => repeat (first | (with_reducible first | exact HI0.out | apply IsS92.alloc | apply IsS92.drewN | apply IsS92.drew | apply IsS92.set_1 | apply IsS92.set_2 | refine IsS92.far ?_ NB0_345.out _ | refine IsS92.far ?_ NB0_351.out _) | exact HI0.out)); (case side2 => repeat (first | (with_reducible first | exact HB.out | apply below_alloc | apply pw_below_drewN | apply below_drew1 | refine below_set ?_ (IsS92.ge HI0.out) | refine below_set ?_ GE345.out | refine below_set ?_ GE351.out) | exact HB.out)); (case side3 => repeat (first | exact (Kd.R_reads' HO369.out).2.2 | (with_reducible refine Kd.C_alloc ?_ _) | (with_reducible refine Kd.C_drewN ?_ _) | (with_reducible refine Kd.C_drew ?_))); (case side4 => exact (Kd.R_reads' HO369.out).2.1); (case side5 => exact far_slice (IsS92.own_ne HI0.out HO369.out (by decide))); rintro e w42 ⟨rfl, hi, hb, hk⟩; refine ⟨_, rfl, ?_⟩; have n0_ := Aside0.mk (KeepBut.blk hk (g' := gb345) (o := .cells #[.slice none 0 0] 40 (0, 0)) (zk BK345.out) NB345_0.out (by simp)); have n1_ := Aside0.mk (Kd.R_mono (Kd.R_keep (IsS92.apart (show IsS92 w0 _ g s0_0 t353 t354 from by repeat (first | (with_reducible first | exact HI0.out | apply IsS92.alloc | apply IsS92.drewN | apply IsS92.drew | apply IsS92.set_1 | apply IsS92.set_2 | refine IsS92.far ?_ NB0_345.out _ | refine IsS92.far ?_ NB0_351.out _) | exact HI0.out)) (zR HO348.out) (by decide)) hk (fun _ h => h.2)) (fun _ h => h.1)); have n2_ := Aside0.mk (KeepBut.blk hk (g' := gb351) (o := .cells #[.slice Ao8 t346.length co8] 40 (0, 0)) (zk BK351.out) NB351_0.out (by simp)); have n3_ := Aside0.mk (Kd.R_mono (Kd.R_keep (IsS92.apart (show IsS92 w0 _ g s0_0 t353 t354 from by repeat (first | (with_reducible first | exact HI0.out | apply IsS92.alloc | apply IsS92.drewN | apply IsS92.drew | apply IsS92.set_1 | apply IsS92.set_2 | refine IsS92.far ?_ NB0_345.out _ | refine IsS92.far ?_ NB0_351.out _) | exact HI0.out)) (zR HO369.out) (by decide)) hk (fun _ h => h.2)) (fun _ h => h.1)); have n4_ := Aside0.mk (KeepBut.trans (by repeat (first | (with_reducible first | exact HK.out | apply KeepBut.set_ | apply keep_drewN | apply keep_drew | apply keep_alloc | refine keep_far ?_ GW345.out _ | refine keep_far ?_ GW351.out _) | exact HK.out)) hk (.inl rfl)); have n5_ := Aside0.mk (hb); have n6_ := Aside0.mk (hi); clear BK345; clear HO348; clear BK351; clear HO369; clear HK; clear HB; clear HI0; have BK345 := n0_; have HO348 := n1_; have BK351 := n2_; have HO369 := n3_; have HK := n4_; have HB := n5_; have HI0 := n6_; clear n0_ n1_ n2_ n3_ n4_ n5_ n6_; (try clear hb); (try clear hb2); (try clear hk); (try clear hi)) | ((with_reducible refine gate_dst (N := 29) rfl ?_); refine Kd.R_lit (Kd.int .i64) _ 3 ?hg (N := 29) ?hd (xs := ([t370, 60] : List Int)) (inner := [.int .i64 t370, .int .i64 60]) (ok := fun _ => True) (okp := fun _ => True) ?hr ?hp (fun _ hk => hk) trivial (Below.refl _ _) (Nat.le_refl _) (by simp) ?_; (case hd => rfl); (case hg => rfl); (case hr => first | (go_simp; done) | (go_simp; rfl)); (case hp => exact (Reps.one (show Kd.M (Kd.int .i64) _ _ _ t370 [.int .i64 t370] from rfl) (Reps.one (show Kd.M (Kd.int .i64) _ _ _ 60 [.int .i64 60] from rfl) (Reps.none _ _)))); intro v374 w43 ho44 hb hg_ hnew_; clear hg_ hnew_; (first | rw [← Ny373.out] at ho44 | (simp only [Int.reduceToNat] at ho44; rw [← Ny373.out] at ho44)); have n0_ := Aside0.mk (Kd.R_elder' (zR HO348.out) (Kd.R_base ho44) hb); have n1_ := Aside0.mk (Kd.R_elder' (zR HO369.out) (Kd.R_base ho44) hb); have n2_ := Aside0.mk (Kd.R_lower (Kd.R_new' (Kd.R_new' ho44 (Kd.R_lt (zR HO348.out))) (Kd.R_lt (zR HO369.out))) (keep_size (w := w) (g := g) (row := none) (by repeat (first | (with_reducible first | exact HK.out | apply KeepBut.set_ | apply keep_drewN | apply keep_drew | apply keep_alloc | refine keep_far ?_ GW345.out _ | refine keep_far ?_ GW351.out _) | exact HK.out)))); have n3_ := Aside0.mk (IsS92.below (by repeat (first | (with_reducible first | exact HI0.out | apply IsS92.alloc | apply IsS92.drewN | apply IsS92.drew | apply IsS92.set_1 | apply IsS92.set_2 | refine IsS92.far ?_ NB0_345.out _ | refine IsS92.far ?_ NB0_351.out _) | exact HI0.out)) hb); have n4_ := Aside0.mk (blk_below (g := gb345) (o := .cells #[.slice none 0 0] 40 (0, 0)) (zk BK345.out) hb); have n5_ := Aside0.mk (blk_below (g := gb351) (o := .cells #[.slice Ao8 t346.length co8] 40 (0, 0)) (zk BK351.out) hb); have n6_ := Aside0.mk (KeepBut.trans (by repeat (first | (with_reducible first | exact HK.out | apply KeepBut.set_ | apply keep_drewN | apply keep_drew | apply keep_alloc | refine keep_far ?_ GW345.out _ | refine keep_far ?_ GW351.out _) | exact HK.out)) (KeepBut.of_below hb g none) (.inl rfl)); have n7_ := Aside0.mk (below_step (by repeat (first | (with_reducible first | exact HB.out | apply below_alloc | apply pw_below_drewN | apply below_drew1 | refine below_set ?_ (IsS92.ge HI0.out) | refine below_set ?_ GE345.out | refine below_set ?_ GE351.out) | exact HB.out)) hb); clear HO348; clear HO369; clear HI0; clear BK345; clear BK351; clear HK; clear HB; have HO348 := n0_; have HO369 := n1_; have HO375 := n2_; have HI0 := n3_; have BK345 := n4_; have BK351 := n5_; have HK := n6_; have HB := n7_; clear n0_ n1_ n2_ n3_ n4_ n5_ n6_ n7_; clear hb ho44; obtain ⟨Ao45, co45, eo45⟩ := Kd.R_slice HO375.out; subst eo45; have hnb46 := NB351_345.out; have hnc46 := NB345_351.out; have hnb47 := NB351_0.out; have hnc47 := NB0_351.out; have hcz48_0 : w43.cell? ⟨gb351, 0, none⟩ = some (.slice Ao8 t346.length co8) := (blk_cell BK351.out 0).trans rfl; have hfz48_0 := blk_frozen BK351.out 0; have hnb49 := NB345_0.out; have hnc49 := NB0_345.out; have hcz50_0 : w43.cell? ⟨gb345, 0, none⟩ = some (.slice none 0 0) := (blk_cell BK345.out 0).trans rfl; have hfz50_0 := blk_frozen BK345.out 0))
    refine bodyPost_ret (results_cell_row rfl _ _ gb345 40 #[.slice Ao45 y373.length co45] (0, 0) _ rfl (by (with_reducible repeat (first | refine blk_drewN ?_ _ | refine blk_drew ?_ | refine blk_alloc ?_ _)); refine blk_put (cs := #[.slice none 0 0]) ?_ 0 _ rfl; (with_reducible repeat (first | refine blk_drewN ?_ _ | refine blk_drew ?_ | refine blk_alloc ?_ _)); refine blk_far ?_ NB345_351.out _; (with_reducible repeat (first | refine blk_drewN ?_ _ | refine blk_drew ?_ | refine blk_alloc ?_ _)); exact BK345.out) Try.underlying40 rfl (by kernel_rfl)) rfl ?_
    exact ⟨_, by first | rfl | (simp [errW_none, errW_some] <;> rfl) | (simp [*, errW_none, errW_some] <;> rfl), Kd.Q_of_R (zR (Kd.R_mono (Kd.R_far (p := ⟨gb345, 0, none⟩) (Kd.R_far (p := ⟨gb351, 0, none⟩) (Kd.R_types (Kd.R_types HO375.out BK351.out (by decide)) BK345.out (by decide)) (fun _ hk => hk.1.2) (.slice Ao45 y373.length co45)) (fun _ hk => hk.2) (.slice Ao45 y373.length co45)) (fun _ hk => trivial))), by repeat (first | (with_reducible first | exact HI0.out | apply IsS92.alloc | apply IsS92.drewN | apply IsS92.drew | apply IsS92.set_1 | apply IsS92.set_2 | refine IsS92.far ?_ NB0_345.out _ | refine IsS92.far ?_ NB0_351.out _) | exact HI0.out), by repeat (first | (with_reducible first | exact HB.out | apply below_alloc | apply pw_below_drewN | apply below_drew1 | refine below_set ?_ (IsS92.ge HI0.out) | refine below_set ?_ GE345.out | refine below_set ?_ GE351.out) | exact HB.out), by repeat (first | (with_reducible first | exact HK.out | apply KeepBut.set_ | apply keep_drewN | apply keep_drew | apply keep_alloc | refine keep_far ?_ GW345.out _ | refine keep_far ?_ GW351.out _) | exact HK.out)⟩
   ·rw [if_neg c37] at H
    have c37b0 : (t352 == 2) = false := beq_eq_false_iff_ne.mpr c37
    have c37b1 : (t352 != 2) = true := bne_iff_ne.mpr c37
    simp only [Option.some.injEq, Prod.mk.injEq] at H
    obtain ⟨rfl, rfl, rfl⟩ := H
    have hnb51 := NB351_345.out
    have hnc51 := NB345_351.out
    have hnb52 := NB351_0.out
    have hnc52 := NB0_351.out
    have hcz53_0 : w12.cell? ⟨gb351, 0, none⟩ = some (.slice Ao8 t346.length co8) := (blk_cell BK351.out 0).trans rfl
    have hfz53_0 := blk_frozen BK351.out 0
    have hnb54 := NB345_0.out
    have hnc54 := NB0_345.out
    have hcz55_0 : w12.cell? ⟨gb345, 0, none⟩ = some (.slice none 0 0) := (blk_cell BK345.out 0).trans rfl
    have hfz55_0 := blk_frozen BK345.out 0
    go_wp2
    refine bodyPost_ret (results_cell_row rfl _ _ gb345 40 #[.slice Ao8 t346.length co8] (0, 0) _ rfl (by (with_reducible repeat (first | refine blk_drewN ?_ _ | refine blk_drew ?_ | refine blk_alloc ?_ _)); refine blk_put (cs := #[.slice none 0 0]) ?_ 0 _ rfl; (with_reducible repeat (first | refine blk_drewN ?_ _ | refine blk_drew ?_ | refine blk_alloc ?_ _)); exact BK345.out) Try.underlying40 rfl (by kernel_rfl)) rfl ?_
    exact ⟨_, by first | rfl | (simp [errW_none, errW_some] <;> rfl) | (simp [*, errW_none, errW_some] <;> rfl), Kd.Q_of_R (zR (Kd.R_mono (Kd.R_far (p := ⟨gb345, 0, none⟩) (Kd.R_types HO348.out BK345.out (by decide)) (fun _ hk => hk.2) (.slice Ao8 t346.length co8)) (fun _ hk => trivial))), by repeat (first | (with_reducible first | exact HI0.out | apply IsS92.alloc | apply IsS92.drewN | apply IsS92.drew | apply IsS92.set_1 | apply IsS92.set_2 | refine IsS92.far ?_ NB0_345.out _ | refine IsS92.far ?_ NB0_351.out _) | exact HI0.out), by repeat (first | (with_reducible first | exact HB.out | apply below_alloc | apply pw_below_drewN | apply below_drew1 | refine below_set ?_ (IsS92.ge HI0.out) | refine below_set ?_ GE345.out | refine below_set ?_ GE351.out) | exact HB.out), by repeat (first | (with_reducible first | exact HK.out | apply KeepBut.set_ | apply keep_drewN | apply keep_drew | apply keep_alloc | refine keep_far ?_ GW345.out _ | refine keep_far ?_ GW351.out _) | exact HK.out)⟩

/-! ### spec_DrawPseudoFrobenius: function 89 -/
def spec_DrawPseudoFrobenius.f (k : Nat) (l0 : List Int) : Option (List Int) := (spec_l1New.f k l0).bind fun bt377 => ((spec_l3Bent.f k bt377.1 bt377.2.1 bt377.2.2).bind fun bt381 => (some bt381.1))
theorem spec_DrawPseudoFrobenius.mono : ∀ a0 k, LeO (spec_DrawPseudoFrobenius.f k a0) (spec_DrawPseudoFrobenius.f (k + 1) a0) := by
 intro a0 k
 unfold spec_DrawPseudoFrobenius.f
 repeat' first
   | (with_reducible first | exact spec_l1New.mono _ _ | exact spec_l3Bent.mono _ _ _ _ | exact LeO.refl _ | exact LeO.none _ | refine LeO.ite ?_ ?_ | refine LeO.bind ?_ (fun _ => ?_))
   | exact LeO.none _
   | refine LeO.ite ?_ ?_
   | refine LeO.bind ?_ (fun _ => ?_)
set_option maxHeartbeats 8000000 in
set_option maxRecDepth 100000 in
theorem spec_DrawPseudoFrobenius.calls (k : Nat) (A0 : Option Addr) (c0 : Nat) (l0 : List Int) (r : List Int) (w : World) (hr0 : Kd.C (Kd.int .u8) w A0 l0.length l0) (hc0 : l0.length ≤ c0) (h : spec_DrawPseudoFrobenius.f k l0 = some r) :
  Calls Try.prog 89 #[.slice A0 l0.length c0] w fun e w' => ∃ v0_ : Value, e = .returned (.agg #[v0_]) ∧ Kd.Q (Kd.int .i64) 3 w' w.heap.size (fun _ => True) v0_ r ∧ Below w.heap.size w w' := by
 have hu40 := Try.underlying40
 have HR0 := Aside0.mk hr0
 have HC0 := Aside0.mk hc0
 clear hr0 hc0
 have HB := Aside0.mk (Below.refl w.heap.size w)
 have H : ((spec_l1New.f k l0).bind fun bt377 => ((spec_l3Bent.f k bt377.1 bt377.2.1 bt377.2.2).bind fun bt381 => (some bt381.1))) = some r := h
 clear h
 obtain ⟨⟨t377, t378, t379⟩, A2, H⟩ := zb H
 (try dsimp only at H)
 obtain ⟨⟨t381, t384, t385⟩, A3, H⟩ := zb H
 (try dsimp only at H)
 obtain rfl := Option.some.inj H
 go_enter Try.func89, Try.ntmps89
 go_wp2_with (first | ((with_reducible refine gate_dst (N := 2) rfl ?_); refine box_event ?hg (N := 2) ?hd (cs := #[.slice none 0 0]) (t := 40) ?hr ?_; (case hd => rfl); (case hg => rfl); (case hr => first | (go_simp; done) | (go_simp; rfl)); intro gb376 hg w4 hbox hb; have n0_ := Aside0.mk (below_step (zB HB.out) hb); have n1_ := Aside0.mk (hbox); have n2_ := Aside0.mk ((by rw [hg]; exact (zS HB.out) : w.heap.size ≤ gb376)); have n3_ := Aside0.mk ((by rw [hg]; exact (zS HB.out) : w.heap.size ≤ gb376)); clear HB; have HB := n0_; have BK376 := n1_; have GW376 := n2_; have GE376 := n3_; clear n0_ n1_ n2_ n3_; clear hb hbox hg) | ((with_reducible refine gate_callee (f := 108) rfl ?_); refine goesL_ (some 4) rfl rfl Try.func108 (by kernel_rfl) rfl #[.slice A0 l0.length c0] rfl (by (try simp only [za, zc, zn]); first | done | rfl) ?_; (with_reducible refine (spec_l1New.calls k _ _ l0 t377 t378 t379 w _ ?side1 ?side2 ?side3 A2.out).mono ?_); (case side1 => repeat (first | (with_reducible first | exact HB.out | apply below_alloc | apply pw_below_drewN | apply below_drew1 | refine below_set ?_ GE376.out) | exact HB.out)); (case side2 => exact HR0.out); (case side3 => exact HC0.out); rintro e w5 ⟨g380, rfl, hi, hb, hb2⟩; refine ⟨_, rfl, ?_⟩; have n0_ := Aside0.mk (blk_below (g := gb376) (o := .cells #[.slice none 0 0] 40 (0, 0)) (zk BK376.out) hb2); have n1_ := Aside0.mk (hb); have n2_ := Aside0.mk (hi); have n3_ := Aside0.mk (IsS92.ne_blk hi (blk_below (g := gb376) (o := .cells #[.slice none 0 0] 40 (0, 0)) (zk BK376.out) hb2) (by decide)); have n4_ := Aside0.mk (Ne.symm (IsS92.ne_blk hi (blk_below (g := gb376) (o := .cells #[.slice none 0 0] 40 (0, 0)) (zk BK376.out) hb2) (by decide))); clear BK376; clear HB; have BK376 := n0_; have HB := n1_; have HI380 := n2_; have NB380_376 := n3_; have NB376_380 := n4_; clear n0_ n1_ n2_ n3_ n4_; (try clear hb); (try clear hb2); (try clear hk); (try clear hi)) | ((with_reducible refine gate_callee (f := 116) rfl ?_); refine goesL_ (some 5) rfl rfl Try.func116 (by kernel_rfl) rfl #[.pointer (some ⟨g380, 0, none⟩)] rfl (by (try simp only [za, zc, zn]); first | done | rfl) ?_; (with_reducible refine (spec_l3Bent.calls k g380 t377 t378 t379 t381 t384 t385 w _ ?side1 ?side2 A3.out).mono ?_); (case side1 => repeat (first | (with_reducible first | exact HI380.out | apply IsS92.alloc | apply IsS92.drewN | apply IsS92.drew | apply IsS92.set_1 | apply IsS92.set_2 | refine IsS92.far ?_ NB380_376.out _) | exact HI380.out)); (case side2 => repeat (first | (with_reducible first | exact HB.out | apply below_alloc | apply pw_below_drewN | apply below_drew1 | refine below_set ?_ (IsS92.ge HI380.out) | refine below_set ?_ GE376.out) | exact HB.out)); rintro e w6 ⟨v382, rfl, ho0, hi, hb, hk⟩; refine ⟨_, rfl, ?_⟩; have n0_ := Aside0.mk (KeepBut.blk hk (g' := gb376) (o := .cells #[.slice none 0 0] 40 (0, 0)) (zk BK376.out) NB376_380.out (by simp)); have n1_ := Aside0.mk (Kd.Q_lower ho0 (below_size (by repeat (first | (with_reducible first | exact HB.out | apply below_alloc | apply pw_below_drewN | apply below_drew1 | refine below_set ?_ (IsS92.ge HI380.out) | refine below_set ?_ GE376.out) | exact HB.out)))); have n2_ := Aside0.mk (hb); have n3_ := Aside0.mk (hi); clear BK376; clear HB; clear HI380; have BK376 := n0_; have HO383 := n1_; have HB := n2_; have HI380 := n3_; clear n0_ n1_ n2_ n3_; (try clear hb); (try clear hb2); (try clear hk); (try clear hi); (try clear ho0); obtain ⟨Ao7, co7, eo7, _⟩ := Kd.Q_slice HO383.out; subst eo7; have hnb8 := NB376_380.out; have hnc8 := NB380_376.out; have hcz9_0 : w6.cell? ⟨gb376, 0, none⟩ = some (.slice none 0 0) := (blk_cell BK376.out 0).trans rfl; have hfz9_0 := blk_frozen BK376.out 0))
 refine bodyPost_ret (results_cell_row rfl _ _ gb376 40 #[.slice Ao7 t381.length co7] (0, 0) _ rfl (by (with_reducible repeat (first | refine blk_drewN ?_ _ | refine blk_drew ?_ | refine blk_alloc ?_ _)); refine blk_put (cs := #[.slice none 0 0]) ?_ 0 _ rfl; (with_reducible repeat (first | refine blk_drewN ?_ _ | refine blk_drew ?_ | refine blk_alloc ?_ _)); exact BK376.out) Try.underlying40 rfl (by kernel_rfl)) rfl ?_
 exact ⟨_, by first | rfl | (simp [errW_none, errW_some] <;> rfl) | (simp [*, errW_none, errW_some] <;> rfl), zQ (Kd.Q_mono (Kd.Q_far (p := ⟨gb376, 0, none⟩) (Kd.Q_types HO383.out BK376.out (by decide)) (fun _ hk => hk.2) (.slice Ao7 t381.length co7)) (fun _ hk => trivial)), by repeat (first | (with_reducible first | exact HB.out | apply below_alloc | apply pw_below_drewN | apply below_drew1 | refine below_set ?_ (IsS92.ge HI380.out) | refine below_set ?_ GE376.out) | exact HB.out)⟩

/-! ### impl_within: function 119 -/
def impl_within.f (a0 : Int) (a1 : Int) (a2 : Int) : Option (Bool) := if a0 ≥ a1 then (some (decide (a0 ≤ a2))) else (some false)
set_option maxHeartbeats 8000000 in
set_option maxRecDepth 100000 in
theorem impl_within.calls (a0 : Int) (a1 : Int) (a2 : Int) (r : Bool) (w : World) (h : impl_within.f a0 a1 a2 = some r) :
  Calls Try.prog 119 #[.int .i64 a0, .int .i64 a1, .int .i64 a2] w fun e w' => e = .returned (.bool r) ∧ Below w.heap.size w w' := by
 have HB := Aside0.mk (Below.refl w.heap.size w)
 have H : (if a0 ≥ a1 then (some (decide (a0 ≤ a2))) else (some false)) = some r := h
 clear h
 by_cases c4 : a0 ≥ a1
 ·rw [if_pos c4] at H
  have c4b0 : decide (a1 ≤ a0) = true := decide_eq_true c4
  clear c4
  obtain rfl := Option.some.inj H
  go_enter Try.func119, Try.ntmps119
  go_wp2
  go_ret
  exact ⟨by first | rfl | (simp [errW_none, errW_some] <;> rfl) | (simp [*, errW_none, errW_some] <;> rfl), zB HB.out⟩
 ·rw [if_neg c4] at H
  have c4b0 : decide (a1 ≤ a0) = false := decide_eq_false c4
  clear c4
  obtain rfl := Option.some.inj H
  go_enter Try.func119, Try.ntmps119
  go_wp2
  go_ret
  exact ⟨by first | rfl | (simp [errW_none, errW_some] <;> rfl) | (simp [*, errW_none, errW_some] <;> rfl), zB HB.out⟩

end Go.Proofs.Ytbagfnppeidonaa.PFnSymmetry
