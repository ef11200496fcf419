-- Written by a program of this session (a turned copy of the kit's print; see NOTES.md).
import Derived.Test.YtbagfnppeidonaaPFnFromGapsx0
import Derived.Test.YtbagfnppeidonaaPFnFromGapsx6
import Derived.Test.YtbagfnppeidonaaPFnFromGapsx7
import Derived.Test.YtbagfnppeidonaaPFnFromGapsx9
import Derived.Test.YtbagfnppeidonaaPFnFromGapsx10
namespace Go.Proofs.Ytbagfnppeidonaa.PFnFromGaps
open Go.RowKit Go.Proofs.YtbagfnppeidonaaW.PrintWords Go.Proofs.YtbagfnppeidonaaW.PrintLast Go.Proofs.YtbagfnppeidonaaW.PrintMore
attribute [local go_sem] max2_int min2_int max_two min_two max_three min_three max_four min_four   -- for this text's walks alone
set_option linter.unusedVariables false
set_option linter.unusedSimpArgs false

/-! ### spec_IsSemigroup: function 54 -/
def spec_IsSemigroup.f (k : Nat) (l0_0 : List Int) : Option (Bool) := (spec_l3Gens.f k l0_0).bind fun t290 => (if t290 = true then (if (l0_0.length : Int) ≤ 12 then ((spec_IsAscending.f k l0_0).bind fun t291 => (if t291 = true then ((spec_GcdOfList.f k l0_0).bind fun t292 => (if t292 = 1 then ((spec_l3Minimal.f k l0_0).bind fun t293 => ((spec_l2Same.f k t293 l0_0).bind fun t296 => (if t296 = true then ((spec_l3Ends.f k l0_0).bind fun t297 => (some t297)) else (some false)))) else (some false))) else (some false))) else (some false)) else (some false))
def spec_IsSemigroup.T1 : Bool × List (List Nat × List Nat) := (true, [([], []), ([0], [0]), ([1], [1]), ([2, 2], [2]), ([3], [3]), ([4, 3], [3, 4]), ([5, 3], [3, 5]), ([6, 3], [3, 6]), ([3, 7], [3, 7]), ([8, 3], [8]), ([9], [9]), ([10, 9], [9, 10]), ([11, 9, 9], [9, 11]), ([9, 12], [9, 12]), ([13, 12], [13]), ([14], [14]), ([15, 14], [14, 15]), ([16, 14, 14], [14, 16]), ([17, 14], [14, 17]), ([14, 18], [14, 18]), ([19, 17], [19]), ([20], [20]), ([21, 20], [20, 21]), ([22, 20, 20], [20, 22]), ([20], [20]), ([24, 20], [20, 24]), ([23, 25, 23, 20], [20, 23, 25]), ([20, 26], [20, 26]), ([27, 26], [27]), ([28], [28]), ([29, 28], [28, 29]), ([30, 28, 28], [28, 30]), ([28, 31], [28, 31]), ([32, 31, 0, 1, 2, 3, 4, 5, 6, 7, 8, 9, 10, 11, 12, 13, 14, 15, 16, 17, 18, 19, 20, 21, 22, 23, 24, 25, 26, 27, 28, 29, 30, 31, 32], [32])])
def spec_IsSemigroup.B1 : List Nat := [0, 1, 3, 7, 15, 31, 63, 127, 255, 511, 1023, 2047, 4095, 8191, 16383, 32767, 65535, 131071, 262143, 524287, 1048575, 2097151, 4194303, 8388607, 2097151, 18874367, 67108863, 134217727, 268435455, 536870911, 1073741823, 2147483647, 4294967295, 8589934591]
theorem spec_IsSemigroup.tab1 : rtab .any (opsOf Try.f54 1) = spec_IsSemigroup.T1 := by kernel_rfl
theorem spec_IsSemigroup.bits1 : waitsOk spec_IsSemigroup.T1.2 spec_IsSemigroup.B1 = true := by kernel_rfl
set_option maxHeartbeats 8000000 in
set_option maxRecDepth 100000 in
theorem spec_IsSemigroup.calls (k : Nat) (A0_0 : Option Addr) (c0_0 : Nat) (l0_0 : List Int) (r : Bool) (w : World) (hr0_0 : Kd.C (Kd.int .i64) w A0_0 l0_0.length l0_0) (hc0_0 : l0_0.length ≤ c0_0) (h : spec_IsSemigroup.f k l0_0 = some r) :
  Calls Try.prog 54 #[.agg #[.slice A0_0 l0_0.length c0_0]] w fun e w' => e = .returned (.bool r) ∧ Below w.heap.size w w' := by
 have hu40 := Try.underlying40; have HR0_0 := Aside0.mk hr0_0; have HC0_0 := Aside0.mk hc0_0; clear hr0_0 hc0_0; have HB := Aside0.mk (Below.refl w.heap.size w); have H : ((spec_l3Gens.f k l0_0).bind fun t290 => (if t290 = true then (if (l0_0.length : Int) ≤ 12 then ((spec_IsAscending.f k l0_0).bind fun t291 => (if t291 = true then ((spec_GcdOfList.f k l0_0).bind fun t292 => (if t292 = 1 then ((spec_l3Minimal.f k l0_0).bind fun t293 => ((spec_l2Same.f k t293 l0_0).bind fun t296 => (if t296 = true then ((spec_l3Ends.f k l0_0).bind fun t297 => (some t297)) else (some false)))) else (some false))) else (some false))) else (some false)) else (some false))) = some r := h; clear h; obtain ⟨t290, A2, H⟩ := zb H
 by_cases c3 : t290 = true
 ·subst c3; rw [zT] at H
  by_cases c4 : (l0_0.length : Int) ≤ 12
  ·rw [if_pos c4] at H; have c4b0 : decide ((l0_0.length : Int) ≤ 12) = true := decide_eq_true c4; have c4b1 : decide (l0_0.length ≤ 12) = true := decide_eq_true (by omega); clear c4; obtain ⟨t291, A5, H⟩ := zb H
   by_cases c6 : t291 = true
   ·subst c6; rw [zT] at H; obtain ⟨t292, A7, H⟩ := zb H
    by_cases c8 : t292 = 1
    ·rw [if_pos c8] at H; have c8b0 : (t292 == 1) = true := beq_iff_eq.mpr c8; have c8b1 : (t292 != 1) = false := bne_eq_false_iff_eq.mpr c8; clear c8; obtain ⟨t293, A9, H⟩ := zb H; obtain ⟨t296, A10, H⟩ := zb H
     by_cases c11 : t296 = true
     ·subst c11; rw [zT] at H; obtain ⟨t297, A12, H⟩ := zb H; obtain rfl := Option.some.inj H; go_enter Try.func54, Try.ntmps54
      try go_wp2_with (first | ((with_reducible refine gate_dst (N := 1) rfl ?_); refine box_event ?hg (N := 1) ?hd (cs := #[.slice A0_0 l0_0.length c0_0]) (t := 40) ?hr ?_; (case hd => rfl); (case hg => rfl); (case hr => first | (go_simp; done) | (go_simp; rfl)); intro gb289 hg w13 hbox hb; have n0_ := Aside0.mk (below_step (zB HB.out) hb); have n1_ := Aside0.mk (hbox); have n2_ := Aside0.mk ((by rw [hg]; exact (zS HB.out) : w.heap.size ≤ gb289)); have n3_ := Aside0.mk ((by rw [hg]; exact (zS HB.out) : w.heap.size ≤ gb289)); clear HB; have HB := n0_; have BK289 := n1_; have GW289 := n2_; have GE289 := n3_; clear n0_ n1_ n2_ n3_; clear hb hbox hg))
      replace BK289 := Aside0.mk (blk_drew BK289.out); replace HB := Aside0.mk (below_drew1 HB.out); refine start_ (n := 34) (S := fun w' => w'.cell? ⟨gb289, 0, none⟩ = some (.slice A0_0 l0_0.length c0_0)) (ds := []) bA0 (by kernel_rfl) rfl rfl ((blk_cell BK289.out 0).trans rfl) (fun hHeld => ?_); refine with_tabW spec_IsSemigroup.tab1 spec_IsSemigroup.bits1 (fun HT_ HW_ => ?_); generalize w13.drew = w14 at BK289 HB hHeld ⊢; refine zp 0 (some 3) ?_ bA7 rfl rfl HT_ (by kernel_rfl) (fun _ _ _ h => h) (by rfl) ?_ ?_ ?_ ?_; rotate_left
      ·intro w'; go_simp; (with_reducible rfl)
      rotate_left
      ·simp only [Act.put, qA, qB, qC, i64_w, i32_w]; rfl
      refine zt 1 (some 4) ?_ bA13 rfl rfl HT_ HW_ (by kernel_rfl) (fun _ _ _ h => h) (by rfl) ?_ hHeld ?_ ?_ ?_; rotate_left
      ·intro w' s0; go_simp; (with_reducible rfl)
      rotate_left
      ·simp only [Act.put, qA, qB, qC, i64_w, i32_w]; rfl
      refine one_ (i := 2) (N := some 5) bA18 rfl rfl (one_of HT_.out (by kernel_rfl)) (by decide) (fun K hK => ?_); refine goes_ Try.func123 (by kernel_rfl) rfl #[.slice A0_0 l0_0.length c0_0] (by rfl) rfl rfl (by (try simp only [za, zc, zn]); first | done | rfl | (simp only [List.length_drop, List.length_take]; rfl)) ?_; (with_reducible refine (spec_l3Gens.calls k _ _ l0_0 true _ ?side1 ?side2 A2.out).mono ?_); (case side1 => exact zC (Kd.C_below HR0_0.out HB.out)); (case side2 => exact HC0_0.out); rintro e w' ⟨rfl, ⟨nd, rfl⟩⟩; refine ⟨_, rfl, ?_⟩; refine hK.out _ _ ((blk_cell BK289.out 0).trans rfl) (fun hHeld => ?_); clear hK K; refine norm_ (a' := ?_) ?_ ?_; rotate_left
      ·show Act.put _ (some 5) _ = _; simp only [Act.put, qA, qB, qC, i64_w, i32_w]; rfl
      refine zp 3 (some 6) ?_ bA27 rfl rfl HT_ (by kernel_rfl) (fun _ _ _ h => h) (by rfl) ?_ ?_ ?_ ?_; rotate_left
      ·intro w'; go_simp; (with_reducible rfl)
      rotate_left
      ·simp only [Act.put, qA, qB, qC, i64_w, i32_w]; rfl
      refine zp 4 (some 7) ?_ bA35 rfl rfl HT_ (by kernel_rfl) (fun _ _ _ h => h) (by rfl) ?_ ?_ ?_ ?_; rotate_left
      ·intro w'; go_simp; (with_reducible rfl)
      rotate_left
      ·simp only [Act.put, qA, qB, qC, i64_w, i32_w]; rfl
      refine zt 5 (some 8) ?_ bA40 rfl rfl HT_ HW_ (by kernel_rfl) (fun _ _ _ h => h) (by rfl) ?_ hHeld ?_ ?_ ?_; rotate_left
      ·intro w' s0; go_simp; (with_reducible rfl)
      rotate_left
      ·simp only [Act.put, qA, qB, qC, i64_w, i32_w]; rfl
      refine zp 6 (some 9) ?_ bA46 rfl rfl HT_ (by kernel_rfl) (fun _ _ _ h => h) (by rfl) ?_ ?_ ?_ ?_; rotate_left
      ·intro w'; go_simp; (with_reducible rfl)
      rotate_left
      ·simp only [Act.put, qA, qB, qC, i64_w, i32_w]; rfl
      refine zp 7 (some 10) ?_ bA54 rfl rfl HT_ (by kernel_rfl) (fun _ _ _ h => h) (by rfl) ?_ ?_ ?_ ?_; rotate_left
      ·intro w'; go_simp; (with_reducible rfl)
      rotate_left
      ·simp only [Act.put, qA, qB, qC, i64_w, i32_w]; rfl
      refine zp 8 (some 11) ?_ bA58 rfl rfl HT_ (by kernel_rfl) (fun _ _ _ h => h) (by rfl) ?_ ?_ ?_ ?_; rotate_left
      ·intro w'; go_simp; (with_reducible rfl)
      rotate_left
      ·simp only [Act.put, qA, qB, qC, i64_w, i32_w]; rfl
      refine zp 9 (some 12) ?_ bA62 rfl rfl HT_ (by kernel_rfl) (fun _ _ _ h => h) (by rfl) ?_ ?_ ?_ ?_; rotate_left
      ·intro w'; go_simp; (with_reducible rfl)
      rotate_left
      ·simp only [Act.put, qA, qB, qC, i64_w, i32_w]; rfl
      refine zp 10 (some 13) ?_ bA67 rfl rfl HT_ (by kernel_rfl) (fun _ _ _ h => h) (by rfl) ?_ ?_ ?_ ?_; rotate_left
      ·intro w'; go_simp; (with_reducible rfl)
      rotate_left
      ·simp only [Act.put, qA, qB, qC, i64_w, i32_w]; rfl
      refine zt 11 (some 14) ?_ bA71 rfl rfl HT_ HW_ (by kernel_rfl) (fun _ _ _ h => h) (by rfl) ?_ hHeld ?_ ?_ ?_; rotate_left
      ·intro w' s0; go_simp; (with_reducible rfl)
      rotate_left
      ·simp only [Act.put, qA, qB, qC, i64_w, i32_w]; rfl
      refine one_ (i := 12) (N := some 15) bA74 rfl rfl (one_of HT_.out (by kernel_rfl)) (by decide) (fun K hK => ?_); refine goes_ Try.func124 (by kernel_rfl) rfl #[.slice A0_0 l0_0.length c0_0] (by rfl) rfl rfl (by (try simp only [za, zc, zn]); first | done | rfl | (simp only [List.length_drop, List.length_take]; rfl)) ?_; (with_reducible refine (spec_IsAscending.calls k _ _ l0_0 true _ ?side1 ?side2 A5.out).mono ?_); (case side1 => exact zC (Kd.C_below HR0_0.out (by repeat (first | (with_reducible first | exact HB.out | apply below_alloc | apply pw_below_drewN | apply below_drew1 | refine below_set ?_ GE289.out) | exact HB.out)))); (case side2 => exact HC0_0.out); rintro e w' ⟨rfl, ⟨nd, rfl⟩⟩; refine ⟨_, rfl, ?_⟩; refine hK.out _ _ ((blk_cell BK289.out 0).trans rfl) (fun hHeld => ?_); clear hK K; refine norm_ (a' := ?_) ?_ ?_; rotate_left
      ·show Act.put _ (some 15) _ = _; simp only [Act.put, qA, qB, qC, i64_w, i32_w]; rfl
      refine zp 13 (some 16) ?_ bA76 rfl rfl HT_ (by kernel_rfl) (fun _ _ _ h => h) (by rfl) ?_ ?_ ?_ ?_; rotate_left
      ·intro w'; go_simp; (with_reducible rfl)
      rotate_left
      ·simp only [Act.put, qA, qB, qC, i64_w, i32_w]; rfl
      refine zp 14 (some 17) ?_ bA77 rfl rfl HT_ (by kernel_rfl) (fun _ _ _ h => h) (by rfl) ?_ ?_ ?_ ?_; rotate_left
      ·intro w'; go_simp; (with_reducible rfl)
      rotate_left
      ·simp only [Act.put, qA, qB, qC, i64_w, i32_w]; rfl
      refine zp 15 (some 18) ?_ bA79 rfl rfl HT_ (by kernel_rfl) (fun _ _ _ h => h) (by rfl) ?_ ?_ ?_ ?_; rotate_left
      ·intro w'; go_simp; (with_reducible rfl)
      rotate_left
      ·simp only [Act.put, qA, qB, qC, i64_w, i32_w]; rfl
      refine zt 16 (some 19) ?_ bA81 rfl rfl HT_ HW_ (by kernel_rfl) (fun _ _ _ h => h) (by rfl) ?_ hHeld ?_ ?_ ?_; rotate_left
      ·intro w' s0; go_simp; (with_reducible rfl)
      rotate_left
      ·simp only [Act.put, qA, qB, qC, i64_w, i32_w]; rfl
      refine one_ (i := 17) (N := some 20) bA83 rfl rfl (one_of HT_.out (by kernel_rfl)) (by decide) (fun K hK => ?_); refine goes_ Try.func125 (by kernel_rfl) rfl #[.slice A0_0 l0_0.length c0_0] (by rfl) rfl rfl (by (try simp only [za, zc, zn]); first | done | rfl | (simp only [List.length_drop, List.length_take]; rfl)) ?_; (with_reducible refine (spec_GcdOfList.calls k _ _ l0_0 t292 _ ?side1 ?side2 A7.out).mono ?_); (case side1 => exact zC (Kd.C_below HR0_0.out (by repeat (first | (with_reducible first | exact HB.out | apply below_alloc | apply pw_below_drewN | apply below_drew1 | refine below_set ?_ GE289.out) | exact HB.out)))); (case side2 => exact HC0_0.out); rintro e w' ⟨rfl, ⟨nd, rfl⟩⟩; refine ⟨_, rfl, ?_⟩; refine hK.out _ _ ((blk_cell BK289.out 0).trans rfl) (fun hHeld => ?_); clear hK K; refine norm_ (a' := ?_) ?_ ?_; rotate_left
      ·show Act.put _ (some 20) _ = _; simp only [Act.put, qA, qB, qC, i64_w, i32_w]; rfl
      refine zp 18 (some 21) ?_ bA85 rfl rfl HT_ (by kernel_rfl) (fun _ _ _ h => h) (by rfl) ?_ ?_ ?_ ?_; rotate_left
      ·intro w'; go_simp; (with_reducible rfl)
      rotate_left
      ·simp only [Act.put, qA, qB, qC, i64_w, i32_w]; rfl
      refine zp 19 (some 22) ?_ bA86 rfl rfl HT_ (by kernel_rfl) (fun _ _ _ h => h) (by rfl) ?_ ?_ ?_ ?_; rotate_left
      ·intro w'; go_simp; (with_reducible rfl)
      rotate_left
      ·simp only [Act.put, qA, qB, qC, i64_w, i32_w]; rfl
      refine zp 20 (some 23) ?_ bA87 rfl rfl HT_ (by kernel_rfl) (fun _ _ _ h => h) (by rfl) ?_ ?_ ?_ ?_; rotate_left
      ·intro w'; go_simp; (with_reducible rfl)
      rotate_left
      ·simp only [Act.put, qA, qB, qC, i64_w, i32_w]; rfl
      refine zp 21 (some 24) ?_ bA88 rfl rfl HT_ (by kernel_rfl) (fun _ _ _ h => h) (by rfl) ?_ ?_ ?_ ?_; rotate_left
      ·intro w'; go_simp; (with_reducible rfl)
      rotate_left
      ·simp only [Act.put, qA, qB, qC, i64_w, i32_w]; rfl
      refine zp 24 (some 27) ?_ bA89 rfl rfl HT_ (by kernel_rfl) (fun _ _ _ h => h) (by rfl) ?_ ?_ ?_ ?_; rotate_left
      ·intro w'; go_simp; (with_reducible rfl)
      rotate_left
      ·simp only [Act.put, qA, qB, qC, i64_w, i32_w]; rfl
      refine zt 22 (some 25) ?_ bA91 rfl rfl HT_ HW_ (by kernel_rfl) (fun _ _ _ h => h) (by rfl) ?_ hHeld ?_ ?_ ?_; rotate_left
      ·intro w' s0; go_simp; (with_reducible rfl)
      rotate_left
      ·simp only [Act.put, qA, qB, qC, i64_w, i32_w]; rfl
      refine zt 25 (some 28) ?_ bA92 rfl rfl HT_ HW_ (by kernel_rfl) (fun _ _ _ h => h) (by rfl) ?_ hHeld ?_ ?_ ?_; rotate_left
      ·intro w' s0; go_simp; (with_reducible rfl)
      rotate_left
      ·simp only [Act.put, qA, qB, qC, i64_w, i32_w]; rfl
      refine one_ (i := 23) (N := some 26) bA95 rfl rfl (one_of HT_.out (by kernel_rfl)) (by decide) (fun K hK => ?_); refine goes_ Try.func127 (by kernel_rfl) rfl #[.slice A0_0 l0_0.length c0_0] (by rfl) rfl rfl (by (try simp only [za, zc, zn]); first | done | rfl | (simp only [List.length_drop, List.length_take]; rfl)) ?_; (with_reducible refine (spec_l3Minimal.calls k _ _ l0_0 t293 _ ?side1 ?side2 A9.out).mono ?_); (case side1 => exact zC (Kd.C_below HR0_0.out (by repeat (first | (with_reducible first | exact HB.out | apply below_alloc | apply pw_below_drewN | apply below_drew1 | refine below_set ?_ GE289.out) | exact HB.out)))); (case side2 => exact HC0_0.out); rintro e w15 ⟨v294, rfl, ho0, hb⟩; refine ⟨_, rfl, ?_⟩; have HO295 := Aside0.mk (Kd.R_lower ho0 (below_size (by repeat (first | (with_reducible first | exact HB.out | apply below_alloc | apply pw_below_drewN | apply below_drew1 | refine below_set ?_ GE289.out) | exact HB.out)))); replace BK289 := Aside0.mk (blk_below (g := gb289) (o := .cells #[.slice A0_0 l0_0.length c0_0] 40 (0, 0)) (zk BK289.out) hb); replace HB := Aside0.mk (below_step (by repeat (first | (with_reducible first | exact HB.out | apply below_alloc | apply pw_below_drewN | apply below_drew1 | refine below_set ?_ GE289.out) | exact HB.out)) hb); (try clear hb); (try clear hb2); (try clear hk); (try clear hi); (try clear ho0); obtain ⟨Ao16, co16, eo16⟩ := Kd.R_slice HO295.out; (first | subst eo16 | (injection eo16 with f1_ f2_ f3_; have f4_ := f1_.symm; have f5_ := f3_.symm; clear f1_ f2_ f3_; subst f4_; subst f5_)); refine hK.out _ _ ((blk_cell BK289.out 0).trans rfl) (fun hHeld => ?_); clear hK K; refine norm_ (a' := ?_) ?_ ?_; rotate_left
      ·show Act.put _ (some 26) _ = _; simp only [Act.put, qA, qB, qC, i64_w, i32_w]; rfl
      refine one_ (i := 26) (N := some 29) bA96 rfl rfl (one_of HT_.out (by kernel_rfl)) (by decide) (fun K hK => ?_); refine goes_ Try.func126 (by kernel_rfl) rfl #[.slice Ao16 t293.length co16, .slice A0_0 l0_0.length c0_0] (by rfl) rfl rfl (by (try simp only [za, zc, zn]); first | done | rfl | (simp only [List.length_drop, List.length_take]; rfl)) ?_; (with_reducible refine (spec_l2Same.calls k _ _ t293 _ _ l0_0 true _ ?side1 ?side2 ?side3 ?side4 A10.out).mono ?_); (case side1 => repeat (first | exact (Kd.R_reads' HO295.out).2.2 | (with_reducible refine Kd.C_alloc ?_ _) | (with_reducible refine Kd.C_drewN ?_ _) | (with_reducible refine Kd.C_drew ?_))); (case side2 => exact (Kd.R_reads' HO295.out).2.1); (case side3 => exact zC (Kd.C_below HR0_0.out HB.out)); (case side4 => exact HC0_0.out); rintro e w' ⟨rfl, ⟨nd, rfl⟩⟩; refine ⟨_, rfl, ?_⟩; refine hK.out _ _ ((blk_cell BK289.out 0).trans rfl) (fun hHeld => ?_); clear hK K; refine norm_ (a' := ?_) ?_ ?_; rotate_left
      ·show Act.put _ (some 29) _ = _; simp only [Act.put, qA, qB, qC, i64_w, i32_w]; rfl
      refine zp 27 (some 30) ?_ bA97 rfl rfl HT_ (by kernel_rfl) (fun _ _ _ h => h) (by rfl) ?_ ?_ ?_ ?_; rotate_left
      ·intro w'; go_simp; (with_reducible rfl)
      rotate_left
      ·simp only [Act.put, qA, qB, qC, i64_w, i32_w]; rfl
      refine zp 28 (some 31) ?_ bA98 rfl rfl HT_ (by kernel_rfl) (fun _ _ _ h => h) (by rfl) ?_ ?_ ?_ ?_; rotate_left
      ·intro w'; go_simp; (with_reducible rfl)
      rotate_left
      ·simp only [Act.put, qA, qB, qC, i64_w, i32_w]; rfl
      refine zp 29 (some 32) ?_ bA99 rfl rfl HT_ (by kernel_rfl) (fun _ _ _ h => h) (by rfl) ?_ ?_ ?_ ?_; rotate_left
      ·intro w'; go_simp; (with_reducible rfl)
      rotate_left
      ·simp only [Act.put, qA, qB, qC, i64_w, i32_w]; rfl
      refine zt 30 (some 33) ?_ bA100 rfl rfl HT_ HW_ (by kernel_rfl) (fun _ _ _ h => h) (by rfl) ?_ hHeld ?_ ?_ ?_; rotate_left
      ·intro w' s0; go_simp; (with_reducible rfl)
      rotate_left
      ·simp only [Act.put, qA, qB, qC, i64_w, i32_w]; rfl
      refine one_ (i := 31) (N := some 34) bA101 rfl rfl (one_of HT_.out (by kernel_rfl)) (by decide) (fun K hK => ?_); refine goes_ Try.func128 (by kernel_rfl) rfl #[.slice A0_0 l0_0.length c0_0] (by rfl) rfl rfl (by (try simp only [za, zc, zn]); first | done | rfl | (simp only [List.length_drop, List.length_take]; rfl)) ?_; (with_reducible refine (spec_l3Ends.calls k _ _ l0_0 t297 _ ?side1 ?side2 A12.out).mono ?_); (case side1 => exact zC (Kd.C_below HR0_0.out (by repeat (first | (with_reducible first | exact HB.out | apply below_alloc | apply pw_below_drewN | apply below_drew1 | refine below_set ?_ GE289.out) | exact HB.out)))); (case side2 => exact HC0_0.out); rintro e w17 ⟨rfl, hb⟩; refine ⟨_, rfl, ?_⟩; replace HO295 := Aside0.mk (Kd.R_below (zR HO295.out) hb); replace BK289 := Aside0.mk (blk_below (g := gb289) (o := .cells #[.slice A0_0 l0_0.length c0_0] 40 (0, 0)) (zk BK289.out) hb); replace HB := Aside0.mk (below_step (by repeat (first | (with_reducible first | exact HB.out | apply below_alloc | apply pw_below_drewN | apply below_drew1 | refine below_set ?_ GE289.out) | exact HB.out)) hb); (try clear hb); (try clear hb2); (try clear hk); (try clear hi); refine hK.out _ _ ((blk_cell BK289.out 0).trans rfl) (fun hHeld => ?_); clear hK K; refine norm_ (a' := ?_) ?_ ?_; rotate_left
      ·show Act.put _ (some 34) _ = _; simp only [Act.put, qA, qB, qC, i64_w, i32_w]; rfl
      refine zp 32 (some 35) ?_ bA102 rfl rfl HT_ (by kernel_rfl) (fun _ _ _ h => h) (by rfl) ?_ ?_ ?_ ?_; rotate_left
      ·intro w'; go_simp; (with_reducible rfl)
      rotate_left
      ·simp only [Act.put, qA, qB, qC, i64_w, i32_w]; rfl
      refine zp 33 (some 2) ?_ bA103 rfl rfl HT_ (by kernel_rfl) (fun _ _ _ h => h) (by rfl) ?_ ?_ ?_ ?_; rotate_left
      ·intro w'; go_simp; (with_reducible rfl)
      rotate_left
      ·simp only [Act.put, qA, qB, qC, i64_w, i32_w]; rfl
      refine done_ (done_of HT_.out (by kernel_rfl)) ?_
      try go_wp2
      go_ret
      exact ⟨by first | rfl | (simp [*, errW_none, errW_some] <;> rfl), by repeat (first | (with_reducible first | exact HB.out | apply below_alloc | apply pw_below_drewN | apply below_drew1 | refine below_set ?_ GE289.out) | exact HB.out)⟩
     ·replace c11 := Bool.eq_false_iff.mpr c11; subst c11; rw [zF] at H; obtain rfl := Option.some.inj H; go_enter Try.func54, Try.ntmps54
      try go_wp2_with (first | ((with_reducible refine gate_dst (N := 1) rfl ?_); refine box_event ?hg (N := 1) ?hd (cs := #[.slice A0_0 l0_0.length c0_0]) (t := 40) ?hr ?_; (case hd => rfl); (case hg => rfl); (case hr => first | (go_simp; done) | (go_simp; rfl)); intro gb289 hg w18 hbox hb; have n0_ := Aside0.mk (below_step (zB HB.out) hb); have n1_ := Aside0.mk (hbox); have n2_ := Aside0.mk ((by rw [hg]; exact (zS HB.out) : w.heap.size ≤ gb289)); have n3_ := Aside0.mk ((by rw [hg]; exact (zS HB.out) : w.heap.size ≤ gb289)); clear HB; have HB := n0_; have BK289 := n1_; have GW289 := n2_; have GE289 := n3_; clear n0_ n1_ n2_ n3_; clear hb hbox hg))
      replace BK289 := Aside0.mk (blk_drew BK289.out); replace HB := Aside0.mk (below_drew1 HB.out); refine start_ (n := 34) (S := fun w' => w'.cell? ⟨gb289, 0, none⟩ = some (.slice A0_0 l0_0.length c0_0)) (ds := []) bA0 (by kernel_rfl) rfl rfl ((blk_cell BK289.out 0).trans rfl) (fun hHeld => ?_); refine with_tabW spec_IsSemigroup.tab1 spec_IsSemigroup.bits1 (fun HT_ HW_ => ?_); generalize w18.drew = w19 at BK289 HB hHeld ⊢; refine zp 0 (some 3) ?_ bA7 rfl rfl HT_ (by kernel_rfl) (fun _ _ _ h => h) (by rfl) ?_ ?_ ?_ ?_; rotate_left
      ·intro w'; go_simp; (with_reducible rfl)
      rotate_left
      ·simp only [Act.put, qA, qB, qC, i64_w, i32_w]; rfl
      refine zt 1 (some 4) ?_ bA13 rfl rfl HT_ HW_ (by kernel_rfl) (fun _ _ _ h => h) (by rfl) ?_ hHeld ?_ ?_ ?_; rotate_left
      ·intro w' s0; go_simp; (with_reducible rfl)
      rotate_left
      ·simp only [Act.put, qA, qB, qC, i64_w, i32_w]; rfl
      refine one_ (i := 2) (N := some 5) bA18 rfl rfl (one_of HT_.out (by kernel_rfl)) (by decide) (fun K hK => ?_); refine goes_ Try.func123 (by kernel_rfl) rfl #[.slice A0_0 l0_0.length c0_0] (by rfl) rfl rfl (by (try simp only [za, zc, zn]); first | done | rfl | (simp only [List.length_drop, List.length_take]; rfl)) ?_; (with_reducible refine (spec_l3Gens.calls k _ _ l0_0 true _ ?side1 ?side2 A2.out).mono ?_); (case side1 => exact zC (Kd.C_below HR0_0.out HB.out)); (case side2 => exact HC0_0.out); rintro e w' ⟨rfl, ⟨nd, rfl⟩⟩; refine ⟨_, rfl, ?_⟩; refine hK.out _ _ ((blk_cell BK289.out 0).trans rfl) (fun hHeld => ?_); clear hK K; refine norm_ (a' := ?_) ?_ ?_; rotate_left
      ·show Act.put _ (some 5) _ = _; simp only [Act.put, qA, qB, qC, i64_w, i32_w]; rfl
      refine zp 3 (some 6) ?_ bA27 rfl rfl HT_ (by kernel_rfl) (fun _ _ _ h => h) (by rfl) ?_ ?_ ?_ ?_; rotate_left
      ·intro w'; go_simp; (with_reducible rfl)
      rotate_left
      ·simp only [Act.put, qA, qB, qC, i64_w, i32_w]; rfl
      refine zp 4 (some 7) ?_ bA35 rfl rfl HT_ (by kernel_rfl) (fun _ _ _ h => h) (by rfl) ?_ ?_ ?_ ?_; rotate_left
      ·intro w'; go_simp; (with_reducible rfl)
      rotate_left
      ·simp only [Act.put, qA, qB, qC, i64_w, i32_w]; rfl
      refine zt 5 (some 8) ?_ bA40 rfl rfl HT_ HW_ (by kernel_rfl) (fun _ _ _ h => h) (by rfl) ?_ hHeld ?_ ?_ ?_; rotate_left
      ·intro w' s0; go_simp; (with_reducible rfl)
      rotate_left
      ·simp only [Act.put, qA, qB, qC, i64_w, i32_w]; rfl
      refine zp 6 (some 9) ?_ bA46 rfl rfl HT_ (by kernel_rfl) (fun _ _ _ h => h) (by rfl) ?_ ?_ ?_ ?_; rotate_left
      ·intro w'; go_simp; (with_reducible rfl)
      rotate_left
      ·simp only [Act.put, qA, qB, qC, i64_w, i32_w]; rfl
      refine zp 7 (some 10) ?_ bA54 rfl rfl HT_ (by kernel_rfl) (fun _ _ _ h => h) (by rfl) ?_ ?_ ?_ ?_; rotate_left
      ·intro w'; go_simp; (with_reducible rfl)
      rotate_left
      ·simp only [Act.put, qA, qB, qC, i64_w, i32_w]; rfl
      refine zp 8 (some 11) ?_ bA58 rfl rfl HT_ (by kernel_rfl) (fun _ _ _ h => h) (by rfl) ?_ ?_ ?_ ?_; rotate_left
      ·intro w'; go_simp; (with_reducible rfl)
      rotate_left
      ·simp only [Act.put, qA, qB, qC, i64_w, i32_w]; rfl
      refine zp 9 (some 12) ?_ bA62 rfl rfl HT_ (by kernel_rfl) (fun _ _ _ h => h) (by rfl) ?_ ?_ ?_ ?_; rotate_left
      ·intro w'; go_simp; (with_reducible rfl)
      rotate_left
      ·simp only [Act.put, qA, qB, qC, i64_w, i32_w]; rfl
      refine zp 10 (some 13) ?_ bA67 rfl rfl HT_ (by kernel_rfl) (fun _ _ _ h => h) (by rfl) ?_ ?_ ?_ ?_; rotate_left
      ·intro w'; go_simp; (with_reducible rfl)
      rotate_left
      ·simp only [Act.put, qA, qB, qC, i64_w, i32_w]; rfl
      refine zt 11 (some 14) ?_ bA71 rfl rfl HT_ HW_ (by kernel_rfl) (fun _ _ _ h => h) (by rfl) ?_ hHeld ?_ ?_ ?_; rotate_left
      ·intro w' s0; go_simp; (with_reducible rfl)
      rotate_left
      ·simp only [Act.put, qA, qB, qC, i64_w, i32_w]; rfl
      refine one_ (i := 12) (N := some 15) bA74 rfl rfl (one_of HT_.out (by kernel_rfl)) (by decide) (fun K hK => ?_); refine goes_ Try.func124 (by kernel_rfl) rfl #[.slice A0_0 l0_0.length c0_0] (by rfl) rfl rfl (by (try simp only [za, zc, zn]); first | done | rfl | (simp only [List.length_drop, List.length_take]; rfl)) ?_; (with_reducible refine (spec_IsAscending.calls k _ _ l0_0 true _ ?side1 ?side2 A5.out).mono ?_); (case side1 => exact zC (Kd.C_below HR0_0.out (by repeat (first | (with_reducible first | exact HB.out | apply below_alloc | apply pw_below_drewN | apply below_drew1 | refine below_set ?_ GE289.out) | exact HB.out)))); (case side2 => exact HC0_0.out); rintro e w' ⟨rfl, ⟨nd, rfl⟩⟩; refine ⟨_, rfl, ?_⟩; refine hK.out _ _ ((blk_cell BK289.out 0).trans rfl) (fun hHeld => ?_); clear hK K; refine norm_ (a' := ?_) ?_ ?_; rotate_left
      ·show Act.put _ (some 15) _ = _; simp only [Act.put, qA, qB, qC, i64_w, i32_w]; rfl
      refine zp 13 (some 16) ?_ bA76 rfl rfl HT_ (by kernel_rfl) (fun _ _ _ h => h) (by rfl) ?_ ?_ ?_ ?_; rotate_left
      ·intro w'; go_simp; (with_reducible rfl)
      rotate_left
      ·simp only [Act.put, qA, qB, qC, i64_w, i32_w]; rfl
      refine zp 14 (some 17) ?_ bA77 rfl rfl HT_ (by kernel_rfl) (fun _ _ _ h => h) (by rfl) ?_ ?_ ?_ ?_; rotate_left
      ·intro w'; go_simp; (with_reducible rfl)
      rotate_left
      ·simp only [Act.put, qA, qB, qC, i64_w, i32_w]; rfl
      refine zp 15 (some 18) ?_ bA79 rfl rfl HT_ (by kernel_rfl) (fun _ _ _ h => h) (by rfl) ?_ ?_ ?_ ?_; rotate_left
      ·intro w'; go_simp; (with_reducible rfl)
      rotate_left
      ·simp only [Act.put, qA, qB, qC, i64_w, i32_w]; rfl
      refine zt 16 (some 19) ?_ bA81 rfl rfl HT_ HW_ (by kernel_rfl) (fun _ _ _ h => h) (by rfl) ?_ hHeld ?_ ?_ ?_; rotate_left
      ·intro w' s0; go_simp; (with_reducible rfl)
      rotate_left
      ·simp only [Act.put, qA, qB, qC, i64_w, i32_w]; rfl
      refine one_ (i := 17) (N := some 20) bA83 rfl rfl (one_of HT_.out (by kernel_rfl)) (by decide) (fun K hK => ?_); refine goes_ Try.func125 (by kernel_rfl) rfl #[.slice A0_0 l0_0.length c0_0] (by rfl) rfl rfl (by (try simp only [za, zc, zn]); first | done | rfl | (simp only [List.length_drop, List.length_take]; rfl)) ?_; (with_reducible refine (spec_GcdOfList.calls k _ _ l0_0 t292 _ ?side1 ?side2 A7.out).mono ?_); (case side1 => exact zC (Kd.C_below HR0_0.out (by repeat (first | (with_reducible first | exact HB.out | apply below_alloc | apply pw_below_drewN | apply below_drew1 | refine below_set ?_ GE289.out) | exact HB.out)))); (case side2 => exact HC0_0.out); rintro e w' ⟨rfl, ⟨nd, rfl⟩⟩; refine ⟨_, rfl, ?_⟩; refine hK.out _ _ ((blk_cell BK289.out 0).trans rfl) (fun hHeld => ?_); clear hK K; refine norm_ (a' := ?_) ?_ ?_; rotate_left
      ·show Act.put _ (some 20) _ = _; simp only [Act.put, qA, qB, qC, i64_w, i32_w]; rfl
      refine zp 18 (some 21) ?_ bA85 rfl rfl HT_ (by kernel_rfl) (fun _ _ _ h => h) (by rfl) ?_ ?_ ?_ ?_; rotate_left
      ·intro w'; go_simp; (with_reducible rfl)
      rotate_left
      ·simp only [Act.put, qA, qB, qC, i64_w, i32_w]; rfl
      refine zp 19 (some 22) ?_ bA86 rfl rfl HT_ (by kernel_rfl) (fun _ _ _ h => h) (by rfl) ?_ ?_ ?_ ?_; rotate_left
      ·intro w'; go_simp; (with_reducible rfl)
      rotate_left
      ·simp only [Act.put, qA, qB, qC, i64_w, i32_w]; rfl
      refine zp 20 (some 23) ?_ bA87 rfl rfl HT_ (by kernel_rfl) (fun _ _ _ h => h) (by rfl) ?_ ?_ ?_ ?_; rotate_left
      ·intro w'; go_simp; (with_reducible rfl)
      rotate_left
      ·simp only [Act.put, qA, qB, qC, i64_w, i32_w]; rfl
      refine zp 21 (some 24) ?_ bA88 rfl rfl HT_ (by kernel_rfl) (fun _ _ _ h => h) (by rfl) ?_ ?_ ?_ ?_; rotate_left
      ·intro w'; go_simp; (with_reducible rfl)
      rotate_left
      ·simp only [Act.put, qA, qB, qC, i64_w, i32_w]; rfl
      refine zp 24 (some 27) ?_ bA89 rfl rfl HT_ (by kernel_rfl) (fun _ _ _ h => h) (by rfl) ?_ ?_ ?_ ?_; rotate_left
      ·intro w'; go_simp; (with_reducible rfl)
      rotate_left
      ·simp only [Act.put, qA, qB, qC, i64_w, i32_w]; rfl
      refine zt 22 (some 25) ?_ bA91 rfl rfl HT_ HW_ (by kernel_rfl) (fun _ _ _ h => h) (by rfl) ?_ hHeld ?_ ?_ ?_; rotate_left
      ·intro w' s0; go_simp; (with_reducible rfl)
      rotate_left
      ·simp only [Act.put, qA, qB, qC, i64_w, i32_w]; rfl
      refine zt 25 (some 28) ?_ bA92 rfl rfl HT_ HW_ (by kernel_rfl) (fun _ _ _ h => h) (by rfl) ?_ hHeld ?_ ?_ ?_; rotate_left
      ·intro w' s0; go_simp; (with_reducible rfl)
      rotate_left
      ·simp only [Act.put, qA, qB, qC, i64_w, i32_w]; rfl
      refine one_ (i := 23) (N := some 26) bA95 rfl rfl (one_of HT_.out (by kernel_rfl)) (by decide) (fun K hK => ?_); refine goes_ Try.func127 (by kernel_rfl) rfl #[.slice A0_0 l0_0.length c0_0] (by rfl) rfl rfl (by (try simp only [za, zc, zn]); first | done | rfl | (simp only [List.length_drop, List.length_take]; rfl)) ?_; (with_reducible refine (spec_l3Minimal.calls k _ _ l0_0 t293 _ ?side1 ?side2 A9.out).mono ?_); (case side1 => exact zC (Kd.C_below HR0_0.out (by repeat (first | (with_reducible first | exact HB.out | apply below_alloc | apply pw_below_drewN | apply below_drew1 | refine below_set ?_ GE289.out) | exact HB.out)))); (case side2 => exact HC0_0.out); rintro e w20 ⟨v294, rfl, ho0, hb⟩; refine ⟨_, rfl, ?_⟩; have HO295 := Aside0.mk (Kd.R_lower ho0 (below_size (by repeat (first | (with_reducible first | exact HB.out | apply below_alloc | apply pw_below_drewN | apply below_drew1 | refine below_set ?_ GE289.out) | exact HB.out)))); replace BK289 := Aside0.mk (blk_below (g := gb289) (o := .cells #[.slice A0_0 l0_0.length c0_0] 40 (0, 0)) (zk BK289.out) hb); replace HB := Aside0.mk (below_step (by repeat (first | (with_reducible first | exact HB.out | apply below_alloc | apply pw_below_drewN | apply below_drew1 | refine below_set ?_ GE289.out) | exact HB.out)) hb); (try clear hb); (try clear hb2); (try clear hk); (try clear hi); (try clear ho0); obtain ⟨Ao21, co21, eo21⟩ := Kd.R_slice HO295.out; (first | subst eo21 | (injection eo21 with f1_ f2_ f3_; have f4_ := f1_.symm; have f5_ := f3_.symm; clear f1_ f2_ f3_; subst f4_; subst f5_)); refine hK.out _ _ ((blk_cell BK289.out 0).trans rfl) (fun hHeld => ?_); clear hK K; refine norm_ (a' := ?_) ?_ ?_; rotate_left
      ·show Act.put _ (some 26) _ = _; simp only [Act.put, qA, qB, qC, i64_w, i32_w]; rfl
      refine one_ (i := 26) (N := some 29) bA96 rfl rfl (one_of HT_.out (by kernel_rfl)) (by decide) (fun K hK => ?_); refine goes_ Try.func126 (by kernel_rfl) rfl #[.slice Ao21 t293.length co21, .slice A0_0 l0_0.length c0_0] (by rfl) rfl rfl (by (try simp only [za, zc, zn]); first | done | rfl | (simp only [List.length_drop, List.length_take]; rfl)) ?_; (with_reducible refine (spec_l2Same.calls k _ _ t293 _ _ l0_0 false _ ?side1 ?side2 ?side3 ?side4 A10.out).mono ?_); (case side1 => repeat (first | exact (Kd.R_reads' HO295.out).2.2 | (with_reducible refine Kd.C_alloc ?_ _) | (with_reducible refine Kd.C_drewN ?_ _) | (with_reducible refine Kd.C_drew ?_))); (case side2 => exact (Kd.R_reads' HO295.out).2.1); (case side3 => exact zC (Kd.C_below HR0_0.out HB.out)); (case side4 => exact HC0_0.out); rintro e w' ⟨rfl, ⟨nd, rfl⟩⟩; refine ⟨_, rfl, ?_⟩; refine hK.out _ _ ((blk_cell BK289.out 0).trans rfl) (fun hHeld => ?_); clear hK K; refine norm_ (a' := ?_) ?_ ?_; rotate_left
      ·show Act.put _ (some 29) _ = _; simp only [Act.put, qA, qB, qC, i64_w, i32_w]; rfl
      refine zp 27 (some 30) ?_ bA97 rfl rfl HT_ (by kernel_rfl) (fun _ _ _ h => h) (by rfl) ?_ ?_ ?_ ?_; rotate_left
      ·intro w'; go_simp; (with_reducible rfl)
      rotate_left
      ·simp only [Act.put, qA, qB, qC, i64_w, i32_w]; rfl
      refine zp 28 (some 31) ?_ bA98 rfl rfl HT_ (by kernel_rfl) (fun _ _ _ h => h) (by rfl) ?_ ?_ ?_ ?_; rotate_left
      ·intro w'; go_simp; (with_reducible rfl)
      rotate_left
      ·simp only [Act.put, qA, qB, qC, i64_w, i32_w]; rfl
      refine zu 29 (some 32) bA99 rfl rfl HT_ (by kernel_rfl) (fun _ _ _ h => h) (by rfl) ?_ ?_ ?_; rotate_left
      ·simp only [Act.put, qA, qB, qC, i64_w, i32_w]; rfl
      refine zu 30 (some 33) bA100 rfl rfl HT_ (by kernel_rfl) (fun _ _ _ h => h) (by rfl) ?_ ?_ ?_; rotate_left
      ·simp only [Act.put, qA, qB, qC, i64_w, i32_w]; rfl
      refine zu 31 (some 34) bA101 rfl rfl HT_ (by kernel_rfl) (fun _ _ _ h => h) (by rfl) ?_ ?_ ?_; rotate_left
      ·simp only [Act.put, qA, qB, qC, i64_w, i32_w]; rfl
      refine zp 32 (some 35) ?_ bA102 rfl rfl HT_ (by kernel_rfl) (fun _ _ _ h => h) (by rfl) ?_ ?_ ?_ ?_; rotate_left
      ·intro w'; go_simp; (with_reducible rfl)
      rotate_left
      ·simp only [Act.put, qA, qB, qC, i64_w, i32_w]; rfl
      refine zp 33 (some 2) ?_ bA103 rfl rfl HT_ (by kernel_rfl) (fun _ _ _ h => h) (by rfl) ?_ ?_ ?_ ?_; rotate_left
      ·intro w'; go_simp; (with_reducible rfl)
      rotate_left
      ·simp only [Act.put, qA, qB, qC, i64_w, i32_w]; rfl
      refine done_ (done_of HT_.out (by kernel_rfl)) ?_
      try go_wp2
      go_ret
      exact ⟨by first | rfl | (simp [*, errW_none, errW_some] <;> rfl), by repeat (first | (with_reducible first | exact HB.out | apply below_alloc | apply pw_below_drewN | apply below_drew1 | refine below_set ?_ GE289.out) | exact HB.out)⟩
    ·rw [if_neg c8] at H; have c8b0 : (t292 == 1) = false := beq_eq_false_iff_ne.mpr c8; have c8b1 : (t292 != 1) = true := bne_iff_ne.mpr c8; obtain rfl := Option.some.inj H; go_enter Try.func54, Try.ntmps54
     try go_wp2_with (first | ((with_reducible refine gate_dst (N := 1) rfl ?_); refine box_event ?hg (N := 1) ?hd (cs := #[.slice A0_0 l0_0.length c0_0]) (t := 40) ?hr ?_; (case hd => rfl); (case hg => rfl); (case hr => first | (go_simp; done) | (go_simp; rfl)); intro gb289 hg w22 hbox hb; have n0_ := Aside0.mk (below_step (zB HB.out) hb); have n1_ := Aside0.mk (hbox); have n2_ := Aside0.mk ((by rw [hg]; exact (zS HB.out) : w.heap.size ≤ gb289)); have n3_ := Aside0.mk ((by rw [hg]; exact (zS HB.out) : w.heap.size ≤ gb289)); clear HB; have HB := n0_; have BK289 := n1_; have GW289 := n2_; have GE289 := n3_; clear n0_ n1_ n2_ n3_; clear hb hbox hg))
     replace BK289 := Aside0.mk (blk_drew BK289.out); replace HB := Aside0.mk (below_drew1 HB.out); refine start_ (n := 34) (S := fun w' => w'.cell? ⟨gb289, 0, none⟩ = some (.slice A0_0 l0_0.length c0_0)) (ds := []) bA0 (by kernel_rfl) rfl rfl ((blk_cell BK289.out 0).trans rfl) (fun hHeld => ?_); refine with_tabW spec_IsSemigroup.tab1 spec_IsSemigroup.bits1 (fun HT_ HW_ => ?_); generalize w22.drew = w23 at BK289 HB hHeld ⊢; refine zp 0 (some 3) ?_ bA7 rfl rfl HT_ (by kernel_rfl) (fun _ _ _ h => h) (by rfl) ?_ ?_ ?_ ?_; rotate_left
     ·intro w'; go_simp; (with_reducible rfl)
     rotate_left
     ·simp only [Act.put, qA, qB, qC, i64_w, i32_w]; rfl
     refine zt 1 (some 4) ?_ bA13 rfl rfl HT_ HW_ (by kernel_rfl) (fun _ _ _ h => h) (by rfl) ?_ hHeld ?_ ?_ ?_; rotate_left
     ·intro w' s0; go_simp; (with_reducible rfl)
     rotate_left
     ·simp only [Act.put, qA, qB, qC, i64_w, i32_w]; rfl
     refine one_ (i := 2) (N := some 5) bA18 rfl rfl (one_of HT_.out (by kernel_rfl)) (by decide) (fun K hK => ?_); refine goes_ Try.func123 (by kernel_rfl) rfl #[.slice A0_0 l0_0.length c0_0] (by rfl) rfl rfl (by (try simp only [za, zc, zn]); first | done | rfl | (simp only [List.length_drop, List.length_take]; rfl)) ?_; (with_reducible refine (spec_l3Gens.calls k _ _ l0_0 true _ ?side1 ?side2 A2.out).mono ?_); (case side1 => exact zC (Kd.C_below HR0_0.out HB.out)); (case side2 => exact HC0_0.out); rintro e w' ⟨rfl, ⟨nd, rfl⟩⟩; refine ⟨_, rfl, ?_⟩; refine hK.out _ _ ((blk_cell BK289.out 0).trans rfl) (fun hHeld => ?_); clear hK K; refine norm_ (a' := ?_) ?_ ?_; rotate_left
     ·show Act.put _ (some 5) _ = _; simp only [Act.put, qA, qB, qC, i64_w, i32_w]; rfl
     refine zp 3 (some 6) ?_ bA27 rfl rfl HT_ (by kernel_rfl) (fun _ _ _ h => h) (by rfl) ?_ ?_ ?_ ?_; rotate_left
     ·intro w'; go_simp; (with_reducible rfl)
     rotate_left
     ·simp only [Act.put, qA, qB, qC, i64_w, i32_w]; rfl
     refine zp 4 (some 7) ?_ bA35 rfl rfl HT_ (by kernel_rfl) (fun _ _ _ h => h) (by rfl) ?_ ?_ ?_ ?_; rotate_left
     ·intro w'; go_simp; (with_reducible rfl)
     rotate_left
     ·simp only [Act.put, qA, qB, qC, i64_w, i32_w]; rfl
     refine zt 5 (some 8) ?_ bA40 rfl rfl HT_ HW_ (by kernel_rfl) (fun _ _ _ h => h) (by rfl) ?_ hHeld ?_ ?_ ?_; rotate_left
     ·intro w' s0; go_simp; (with_reducible rfl)
     rotate_left
     ·simp only [Act.put, qA, qB, qC, i64_w, i32_w]; rfl
     refine zp 6 (some 9) ?_ bA46 rfl rfl HT_ (by kernel_rfl) (fun _ _ _ h => h) (by rfl) ?_ ?_ ?_ ?_; rotate_left
     ·intro w'; go_simp; (with_reducible rfl)
     rotate_left
     ·simp only [Act.put, qA, qB, qC, i64_w, i32_w]; rfl
     refine zp 7 (some 10) ?_ bA54 rfl rfl HT_ (by kernel_rfl) (fun _ _ _ h => h) (by rfl) ?_ ?_ ?_ ?_; rotate_left
     ·intro w'; go_simp; (with_reducible rfl)
     rotate_left
     ·simp only [Act.put, qA, qB, qC, i64_w, i32_w]; rfl
     refine zp 8 (some 11) ?_ bA58 rfl rfl HT_ (by kernel_rfl) (fun _ _ _ h => h) (by rfl) ?_ ?_ ?_ ?_; rotate_left
     ·intro w'; go_simp; (with_reducible rfl)
     rotate_left
     ·simp only [Act.put, qA, qB, qC, i64_w, i32_w]; rfl
     refine zp 9 (some 12) ?_ bA62 rfl rfl HT_ (by kernel_rfl) (fun _ _ _ h => h) (by rfl) ?_ ?_ ?_ ?_; rotate_left
     ·intro w'; go_simp; (with_reducible rfl)
     rotate_left
     ·simp only [Act.put, qA, qB, qC, i64_w, i32_w]; rfl
     refine zp 10 (some 13) ?_ bA67 rfl rfl HT_ (by kernel_rfl) (fun _ _ _ h => h) (by rfl) ?_ ?_ ?_ ?_; rotate_left
     ·intro w'; go_simp; (with_reducible rfl)
     rotate_left
     ·simp only [Act.put, qA, qB, qC, i64_w, i32_w]; rfl
     refine zt 11 (some 14) ?_ bA71 rfl rfl HT_ HW_ (by kernel_rfl) (fun _ _ _ h => h) (by rfl) ?_ hHeld ?_ ?_ ?_; rotate_left
     ·intro w' s0; go_simp; (with_reducible rfl)
     rotate_left
     ·simp only [Act.put, qA, qB, qC, i64_w, i32_w]; rfl
     refine one_ (i := 12) (N := some 15) bA74 rfl rfl (one_of HT_.out (by kernel_rfl)) (by decide) (fun K hK => ?_); refine goes_ Try.func124 (by kernel_rfl) rfl #[.slice A0_0 l0_0.length c0_0] (by rfl) rfl rfl (by (try simp only [za, zc, zn]); first | done | rfl | (simp only [List.length_drop, List.length_take]; rfl)) ?_; (with_reducible refine (spec_IsAscending.calls k _ _ l0_0 true _ ?side1 ?side2 A5.out).mono ?_); (case side1 => exact zC (Kd.C_below HR0_0.out (by repeat (first | (with_reducible first | exact HB.out | apply below_alloc | apply pw_below_drewN | apply below_drew1 | refine below_set ?_ GE289.out) | exact HB.out)))); (case side2 => exact HC0_0.out); rintro e w' ⟨rfl, ⟨nd, rfl⟩⟩; refine ⟨_, rfl, ?_⟩; refine hK.out _ _ ((blk_cell BK289.out 0).trans rfl) (fun hHeld => ?_); clear hK K; refine norm_ (a' := ?_) ?_ ?_; rotate_left
     ·show Act.put _ (some 15) _ = _; simp only [Act.put, qA, qB, qC, i64_w, i32_w]; rfl
     refine zp 13 (some 16) ?_ bA76 rfl rfl HT_ (by kernel_rfl) (fun _ _ _ h => h) (by rfl) ?_ ?_ ?_ ?_; rotate_left
     ·intro w'; go_simp; (with_reducible rfl)
     rotate_left
     ·simp only [Act.put, qA, qB, qC, i64_w, i32_w]; rfl
     refine zp 14 (some 17) ?_ bA77 rfl rfl HT_ (by kernel_rfl) (fun _ _ _ h => h) (by rfl) ?_ ?_ ?_ ?_; rotate_left
     ·intro w'; go_simp; (with_reducible rfl)
     rotate_left
     ·simp only [Act.put, qA, qB, qC, i64_w, i32_w]; rfl
     refine zp 15 (some 18) ?_ bA79 rfl rfl HT_ (by kernel_rfl) (fun _ _ _ h => h) (by rfl) ?_ ?_ ?_ ?_; rotate_left
     ·intro w'; go_simp; (with_reducible rfl)
     rotate_left
     ·simp only [Act.put, qA, qB, qC, i64_w, i32_w]; rfl
     refine zt 16 (some 19) ?_ bA81 rfl rfl HT_ HW_ (by kernel_rfl) (fun _ _ _ h => h) (by rfl) ?_ hHeld ?_ ?_ ?_; rotate_left
     ·intro w' s0; go_simp; (with_reducible rfl)
     rotate_left
     ·simp only [Act.put, qA, qB, qC, i64_w, i32_w]; rfl
     refine one_ (i := 17) (N := some 20) bA83 rfl rfl (one_of HT_.out (by kernel_rfl)) (by decide) (fun K hK => ?_); refine goes_ Try.func125 (by kernel_rfl) rfl #[.slice A0_0 l0_0.length c0_0] (by rfl) rfl rfl (by (try simp only [za, zc, zn]); first | done | rfl | (simp only [List.length_drop, List.length_take]; rfl)) ?_; (with_reducible refine (spec_GcdOfList.calls k _ _ l0_0 t292 _ ?side1 ?side2 A7.out).mono ?_); (case side1 => exact zC (Kd.C_below HR0_0.out (by repeat (first | (with_reducible first | exact HB.out | apply below_alloc | apply pw_below_drewN | apply below_drew1 | refine below_set ?_ GE289.out) | exact HB.out)))); (case side2 => exact HC0_0.out); rintro e w' ⟨rfl, ⟨nd, rfl⟩⟩; refine ⟨_, rfl, ?_⟩; refine hK.out _ _ ((blk_cell BK289.out 0).trans rfl) (fun hHeld => ?_); clear hK K; refine norm_ (a' := ?_) ?_ ?_; rotate_left
     ·show Act.put _ (some 20) _ = _; simp only [Act.put, qA, qB, qC, i64_w, i32_w]; rfl
     refine zp 18 (some 21) ?_ bA85 rfl rfl HT_ (by kernel_rfl) (fun _ _ _ h => h) (by rfl) ?_ ?_ ?_ ?_; rotate_left
     ·intro w'; go_simp; (with_reducible rfl)
     rotate_left
     ·simp only [Act.put, qA, qB, qC, i64_w, i32_w]; rfl
     refine zp 19 (some 22) ?_ bA86 rfl rfl HT_ (by kernel_rfl) (fun _ _ _ h => h) (by rfl) ?_ ?_ ?_ ?_; rotate_left
     ·intro w'; go_simp; (with_reducible rfl)
     rotate_left
     ·simp only [Act.put, qA, qB, qC, i64_w, i32_w]; rfl
     refine zp 20 (some 23) ?_ bA87 rfl rfl HT_ (by kernel_rfl) (fun _ _ _ h => h) (by rfl) ?_ ?_ ?_ ?_; rotate_left
     ·intro w'; go_simp; (with_reducible rfl)
     rotate_left
     ·simp only [Act.put, qA, qB, qC, i64_w, i32_w]; rfl
     refine zu 21 (some 24) bA88 rfl rfl HT_ (by kernel_rfl) (fun _ _ _ h => h) (by rfl) ?_ ?_ ?_; rotate_left
     ·simp only [Act.put, qA, qB, qC, i64_w, i32_w]; rfl
     refine zu 22 (some 25) bA90 rfl rfl HT_ (by kernel_rfl) (fun _ _ _ h => h) (by rfl) ?_ ?_ ?_; rotate_left
     ·simp only [Act.put, qA, qB, qC, i64_w, i32_w]; rfl
     refine zu 23 (some 26) bA93 rfl rfl HT_ (by kernel_rfl) (fun _ _ _ h => h) (by rfl) ?_ ?_ ?_; rotate_left
     ·simp only [Act.put, qA, qB, qC, i64_w, i32_w]; rfl
     refine zu 24 (some 27) bA94 rfl rfl HT_ (by kernel_rfl) (fun _ _ _ h => h) (by rfl) ?_ ?_ ?_; rotate_left
     ·simp only [Act.put, qA, qB, qC, i64_w, i32_w]; rfl
     refine zu 25 (some 28) bA95 rfl rfl HT_ (by kernel_rfl) (fun _ _ _ h => h) (by rfl) ?_ ?_ ?_; rotate_left
     ·simp only [Act.put, qA, qB, qC, i64_w, i32_w]; rfl
     refine zu 26 (some 29) bA96 rfl rfl HT_ (by kernel_rfl) (fun _ _ _ h => h) (by rfl) ?_ ?_ ?_; rotate_left
     ·simp only [Act.put, qA, qB, qC, i64_w, i32_w]; rfl
     refine zp 27 (some 30) ?_ bA97 rfl rfl HT_ (by kernel_rfl) (fun _ _ _ h => h) (by rfl) ?_ ?_ ?_ ?_; rotate_left
     ·intro w'; go_simp; (with_reducible rfl)
     rotate_left
     ·simp only [Act.put, qA, qB, qC, i64_w, i32_w]; rfl
     refine zp 28 (some 31) ?_ bA98 rfl rfl HT_ (by kernel_rfl) (fun _ _ _ h => h) (by rfl) ?_ ?_ ?_ ?_; rotate_left
     ·intro w'; go_simp; (with_reducible rfl)
     rotate_left
     ·simp only [Act.put, qA, qB, qC, i64_w, i32_w]; rfl
     refine zu 29 (some 32) bA99 rfl rfl HT_ (by kernel_rfl) (fun _ _ _ h => h) (by rfl) ?_ ?_ ?_; rotate_left
     ·simp only [Act.put, qA, qB, qC, i64_w, i32_w]; rfl
     refine zu 30 (some 33) bA100 rfl rfl HT_ (by kernel_rfl) (fun _ _ _ h => h) (by rfl) ?_ ?_ ?_; rotate_left
     ·simp only [Act.put, qA, qB, qC, i64_w, i32_w]; rfl
     refine zu 31 (some 34) bA101 rfl rfl HT_ (by kernel_rfl) (fun _ _ _ h => h) (by rfl) ?_ ?_ ?_; rotate_left
     ·simp only [Act.put, qA, qB, qC, i64_w, i32_w]; rfl
     refine zp 32 (some 35) ?_ bA102 rfl rfl HT_ (by kernel_rfl) (fun _ _ _ h => h) (by rfl) ?_ ?_ ?_ ?_; rotate_left
     ·intro w'; go_simp; (with_reducible rfl)
     rotate_left
     ·simp only [Act.put, qA, qB, qC, i64_w, i32_w]; rfl
     refine zp 33 (some 2) ?_ bA103 rfl rfl HT_ (by kernel_rfl) (fun _ _ _ h => h) (by rfl) ?_ ?_ ?_ ?_; rotate_left
     ·intro w'; go_simp; (with_reducible rfl)
     rotate_left
     ·simp only [Act.put, qA, qB, qC, i64_w, i32_w]; rfl
     refine done_ (done_of HT_.out (by kernel_rfl)) ?_
     try go_wp2
     go_ret
     exact ⟨by first | rfl | (simp [*, errW_none, errW_some] <;> rfl), by repeat (first | (with_reducible first | exact HB.out | apply below_alloc | apply pw_below_drewN | apply below_drew1 | refine below_set ?_ GE289.out) | exact HB.out)⟩
   ·replace c6 := Bool.eq_false_iff.mpr c6; subst c6; rw [zF] at H; obtain rfl := Option.some.inj H; go_enter Try.func54, Try.ntmps54
    try go_wp2_with (first | ((with_reducible refine gate_dst (N := 1) rfl ?_); refine box_event ?hg (N := 1) ?hd (cs := #[.slice A0_0 l0_0.length c0_0]) (t := 40) ?hr ?_; (case hd => rfl); (case hg => rfl); (case hr => first | (go_simp; done) | (go_simp; rfl)); intro gb289 hg w24 hbox hb; have n0_ := Aside0.mk (below_step (zB HB.out) hb); have n1_ := Aside0.mk (hbox); have n2_ := Aside0.mk ((by rw [hg]; exact (zS HB.out) : w.heap.size ≤ gb289)); have n3_ := Aside0.mk ((by rw [hg]; exact (zS HB.out) : w.heap.size ≤ gb289)); clear HB; have HB := n0_; have BK289 := n1_; have GW289 := n2_; have GE289 := n3_; clear n0_ n1_ n2_ n3_; clear hb hbox hg))
    replace BK289 := Aside0.mk (blk_drew BK289.out); replace HB := Aside0.mk (below_drew1 HB.out); refine start_ (n := 34) (S := fun w' => w'.cell? ⟨gb289, 0, none⟩ = some (.slice A0_0 l0_0.length c0_0)) (ds := []) bA0 (by kernel_rfl) rfl rfl ((blk_cell BK289.out 0).trans rfl) (fun hHeld => ?_); refine with_tabW spec_IsSemigroup.tab1 spec_IsSemigroup.bits1 (fun HT_ HW_ => ?_); generalize w24.drew = w25 at BK289 HB hHeld ⊢; refine zp 0 (some 3) ?_ bA7 rfl rfl HT_ (by kernel_rfl) (fun _ _ _ h => h) (by rfl) ?_ ?_ ?_ ?_; rotate_left
    ·intro w'; go_simp; (with_reducible rfl)
    rotate_left
    ·simp only [Act.put, qA, qB, qC, i64_w, i32_w]; rfl
    refine zt 1 (some 4) ?_ bA13 rfl rfl HT_ HW_ (by kernel_rfl) (fun _ _ _ h => h) (by rfl) ?_ hHeld ?_ ?_ ?_; rotate_left
    ·intro w' s0; go_simp; (with_reducible rfl)
    rotate_left
    ·simp only [Act.put, qA, qB, qC, i64_w, i32_w]; rfl
    refine one_ (i := 2) (N := some 5) bA18 rfl rfl (one_of HT_.out (by kernel_rfl)) (by decide) (fun K hK => ?_); refine goes_ Try.func123 (by kernel_rfl) rfl #[.slice A0_0 l0_0.length c0_0] (by rfl) rfl rfl (by (try simp only [za, zc, zn]); first | done | rfl | (simp only [List.length_drop, List.length_take]; rfl)) ?_; (with_reducible refine (spec_l3Gens.calls k _ _ l0_0 true _ ?side1 ?side2 A2.out).mono ?_); (case side1 => exact zC (Kd.C_below HR0_0.out HB.out)); (case side2 => exact HC0_0.out); rintro e w' ⟨rfl, ⟨nd, rfl⟩⟩; refine ⟨_, rfl, ?_⟩; refine hK.out _ _ ((blk_cell BK289.out 0).trans rfl) (fun hHeld => ?_); clear hK K; refine norm_ (a' := ?_) ?_ ?_; rotate_left
    ·show Act.put _ (some 5) _ = _; simp only [Act.put, qA, qB, qC, i64_w, i32_w]; rfl
    refine zp 3 (some 6) ?_ bA27 rfl rfl HT_ (by kernel_rfl) (fun _ _ _ h => h) (by rfl) ?_ ?_ ?_ ?_; rotate_left
    ·intro w'; go_simp; (with_reducible rfl)
    rotate_left
    ·simp only [Act.put, qA, qB, qC, i64_w, i32_w]; rfl
    refine zp 4 (some 7) ?_ bA35 rfl rfl HT_ (by kernel_rfl) (fun _ _ _ h => h) (by rfl) ?_ ?_ ?_ ?_; rotate_left
    ·intro w'; go_simp; (with_reducible rfl)
    rotate_left
    ·simp only [Act.put, qA, qB, qC, i64_w, i32_w]; rfl
    refine zt 5 (some 8) ?_ bA40 rfl rfl HT_ HW_ (by kernel_rfl) (fun _ _ _ h => h) (by rfl) ?_ hHeld ?_ ?_ ?_; rotate_left
    ·intro w' s0; go_simp; (with_reducible rfl)
    rotate_left
    ·simp only [Act.put, qA, qB, qC, i64_w, i32_w]; rfl
    refine zp 6 (some 9) ?_ bA46 rfl rfl HT_ (by kernel_rfl) (fun _ _ _ h => h) (by rfl) ?_ ?_ ?_ ?_; rotate_left
    ·intro w'; go_simp; (with_reducible rfl)
    rotate_left
    ·simp only [Act.put, qA, qB, qC, i64_w, i32_w]; rfl
    refine zp 7 (some 10) ?_ bA54 rfl rfl HT_ (by kernel_rfl) (fun _ _ _ h => h) (by rfl) ?_ ?_ ?_ ?_; rotate_left
    ·intro w'; go_simp; (with_reducible rfl)
    rotate_left
    ·simp only [Act.put, qA, qB, qC, i64_w, i32_w]; rfl
    refine zp 8 (some 11) ?_ bA58 rfl rfl HT_ (by kernel_rfl) (fun _ _ _ h => h) (by rfl) ?_ ?_ ?_ ?_; rotate_left
    ·intro w'; go_simp; (with_reducible rfl)
    rotate_left
    ·simp only [Act.put, qA, qB, qC, i64_w, i32_w]; rfl
    refine zp 9 (some 12) ?_ bA62 rfl rfl HT_ (by kernel_rfl) (fun _ _ _ h => h) (by rfl) ?_ ?_ ?_ ?_; rotate_left
    ·intro w'; go_simp; (with_reducible rfl)
    rotate_left
    ·simp only [Act.put, qA, qB, qC, i64_w, i32_w]; rfl
    refine zp 10 (some 13) ?_ bA67 rfl rfl HT_ (by kernel_rfl) (fun _ _ _ h => h) (by rfl) ?_ ?_ ?_ ?_; rotate_left
    ·intro w'; go_simp; (with_reducible rfl)
    rotate_left
    ·simp only [Act.put, qA, qB, qC, i64_w, i32_w]; rfl
    refine zt 11 (some 14) ?_ bA71 rfl rfl HT_ HW_ (by kernel_rfl) (fun _ _ _ h => h) (by rfl) ?_ hHeld ?_ ?_ ?_; rotate_left
    ·intro w' s0; go_simp; (with_reducible rfl)
    rotate_left
    ·simp only [Act.put, qA, qB, qC, i64_w, i32_w]; rfl
    refine one_ (i := 12) (N := some 15) bA74 rfl rfl (one_of HT_.out (by kernel_rfl)) (by decide) (fun K hK => ?_); refine goes_ Try.func124 (by kernel_rfl) rfl #[.slice A0_0 l0_0.length c0_0] (by rfl) rfl rfl (by (try simp only [za, zc, zn]); first | done | rfl | (simp only [List.length_drop, List.length_take]; rfl)) ?_; (with_reducible refine (spec_IsAscending.calls k _ _ l0_0 false _ ?side1 ?side2 A5.out).mono ?_); (case side1 => exact zC (Kd.C_below HR0_0.out (by repeat (first | (with_reducible first | exact HB.out | apply below_alloc | apply pw_below_drewN | apply below_drew1 | refine below_set ?_ GE289.out) | exact HB.out)))); (case side2 => exact HC0_0.out); rintro e w' ⟨rfl, ⟨nd, rfl⟩⟩; refine ⟨_, rfl, ?_⟩; refine hK.out _ _ ((blk_cell BK289.out 0).trans rfl) (fun hHeld => ?_); clear hK K; refine norm_ (a' := ?_) ?_ ?_; rotate_left
    ·show Act.put _ (some 15) _ = _; simp only [Act.put, qA, qB, qC, i64_w, i32_w]; rfl
    refine zp 13 (some 16) ?_ bA76 rfl rfl HT_ (by kernel_rfl) (fun _ _ _ h => h) (by rfl) ?_ ?_ ?_ ?_; rotate_left
    ·intro w'; go_simp; (with_reducible rfl)
    rotate_left
    ·simp only [Act.put, qA, qB, qC, i64_w, i32_w]; rfl
    refine zp 14 (some 17) ?_ bA77 rfl rfl HT_ (by kernel_rfl) (fun _ _ _ h => h) (by rfl) ?_ ?_ ?_ ?_; rotate_left
    ·intro w'; go_simp; (with_reducible rfl)
    rotate_left
    ·simp only [Act.put, qA, qB, qC, i64_w, i32_w]; rfl
    refine zu 15 (some 18) bA79 rfl rfl HT_ (by kernel_rfl) (fun _ _ _ h => h) (by rfl) ?_ ?_ ?_; rotate_left
    ·simp only [Act.put, qA, qB, qC, i64_w, i32_w]; rfl
    refine zu 16 (some 19) bA81 rfl rfl HT_ (by kernel_rfl) (fun _ _ _ h => h) (by rfl) ?_ ?_ ?_; rotate_left
    ·simp only [Act.put, qA, qB, qC, i64_w, i32_w]; rfl
    refine zu 17 (some 20) bA83 rfl rfl HT_ (by kernel_rfl) (fun _ _ _ h => h) (by rfl) ?_ ?_ ?_; rotate_left
    ·simp only [Act.put, qA, qB, qC, i64_w, i32_w]; rfl
    refine zu 18 (some 21) bA85 rfl rfl HT_ (by kernel_rfl) (fun _ _ _ h => h) (by rfl) ?_ ?_ ?_; rotate_left
    ·simp only [Act.put, qA, qB, qC, i64_w, i32_w]; rfl
    refine zp 19 (some 22) ?_ bA86 rfl rfl HT_ (by kernel_rfl) (fun _ _ _ h => h) (by rfl) ?_ ?_ ?_ ?_; rotate_left
    ·intro w'; go_simp; (with_reducible rfl)
    rotate_left
    ·simp only [Act.put, qA, qB, qC, i64_w, i32_w]; rfl
    refine zp 20 (some 23) ?_ bA87 rfl rfl HT_ (by kernel_rfl) (fun _ _ _ h => h) (by rfl) ?_ ?_ ?_ ?_; rotate_left
    ·intro w'; go_simp; (with_reducible rfl)
    rotate_left
    ·simp only [Act.put, qA, qB, qC, i64_w, i32_w]; rfl
    refine zu 21 (some 24) bA88 rfl rfl HT_ (by kernel_rfl) (fun _ _ _ h => h) (by rfl) ?_ ?_ ?_; rotate_left
    ·simp only [Act.put, qA, qB, qC, i64_w, i32_w]; rfl
    refine zu 22 (some 25) bA90 rfl rfl HT_ (by kernel_rfl) (fun _ _ _ h => h) (by rfl) ?_ ?_ ?_; rotate_left
    ·simp only [Act.put, qA, qB, qC, i64_w, i32_w]; rfl
    refine zu 23 (some 26) bA93 rfl rfl HT_ (by kernel_rfl) (fun _ _ _ h => h) (by rfl) ?_ ?_ ?_; rotate_left
    ·simp only [Act.put, qA, qB, qC, i64_w, i32_w]; rfl
    refine zu 24 (some 27) bA94 rfl rfl HT_ (by kernel_rfl) (fun _ _ _ h => h) (by rfl) ?_ ?_ ?_; rotate_left
    ·simp only [Act.put, qA, qB, qC, i64_w, i32_w]; rfl
    refine zu 25 (some 28) bA95 rfl rfl HT_ (by kernel_rfl) (fun _ _ _ h => h) (by rfl) ?_ ?_ ?_; rotate_left
    ·simp only [Act.put, qA, qB, qC, i64_w, i32_w]; rfl
    refine zu 26 (some 29) bA96 rfl rfl HT_ (by kernel_rfl) (fun _ _ _ h => h) (by rfl) ?_ ?_ ?_; rotate_left
    ·simp only [Act.put, qA, qB, qC, i64_w, i32_w]; rfl
    refine zp 27 (some 30) ?_ bA97 rfl rfl HT_ (by kernel_rfl) (fun _ _ _ h => h) (by rfl) ?_ ?_ ?_ ?_; rotate_left
    ·intro w'; go_simp; (with_reducible rfl)
    rotate_left
    ·simp only [Act.put, qA, qB, qC, i64_w, i32_w]; rfl
    refine zp 28 (some 31) ?_ bA98 rfl rfl HT_ (by kernel_rfl) (fun _ _ _ h => h) (by rfl) ?_ ?_ ?_ ?_; rotate_left
    ·intro w'; go_simp; (with_reducible rfl)
    rotate_left
    ·simp only [Act.put, qA, qB, qC, i64_w, i32_w]; rfl
    refine zu 29 (some 32) bA99 rfl rfl HT_ (by kernel_rfl) (fun _ _ _ h => h) (by rfl) ?_ ?_ ?_; rotate_left
    ·simp only [Act.put, qA, qB, qC, i64_w, i32_w]; rfl
    refine zu 30 (some 33) bA100 rfl rfl HT_ (by kernel_rfl) (fun _ _ _ h => h) (by rfl) ?_ ?_ ?_; rotate_left
    ·simp only [Act.put, qA, qB, qC, i64_w, i32_w]; rfl
    refine zu 31 (some 34) bA101 rfl rfl HT_ (by kernel_rfl) (fun _ _ _ h => h) (by rfl) ?_ ?_ ?_; rotate_left
    ·simp only [Act.put, qA, qB, qC, i64_w, i32_w]; rfl
    refine zp 32 (some 35) ?_ bA102 rfl rfl HT_ (by kernel_rfl) (fun _ _ _ h => h) (by rfl) ?_ ?_ ?_ ?_; rotate_left
    ·intro w'; go_simp; (with_reducible rfl)
    rotate_left
    ·simp only [Act.put, qA, qB, qC, i64_w, i32_w]; rfl
    refine zp 33 (some 2) ?_ bA103 rfl rfl HT_ (by kernel_rfl) (fun _ _ _ h => h) (by rfl) ?_ ?_ ?_ ?_; rotate_left
    ·intro w'; go_simp; (with_reducible rfl)
    rotate_left
    ·simp only [Act.put, qA, qB, qC, i64_w, i32_w]; rfl
    refine done_ (done_of HT_.out (by kernel_rfl)) ?_
    try go_wp2
    go_ret
    exact ⟨by first | rfl | (simp [*, errW_none, errW_some] <;> rfl), by repeat (first | (with_reducible first | exact HB.out | apply below_alloc | apply pw_below_drewN | apply below_drew1 | refine below_set ?_ GE289.out) | exact HB.out)⟩
  ·rw [if_neg c4] at H; have c4b0 : decide ((l0_0.length : Int) ≤ 12) = false := decide_eq_false c4; have c4b1 : decide (l0_0.length ≤ 12) = false := decide_eq_false (by omega); clear c4; obtain rfl := Option.some.inj H; go_enter Try.func54, Try.ntmps54
   try go_wp2_with (first | ((with_reducible refine gate_dst (N := 1) rfl ?_); refine box_event ?hg (N := 1) ?hd (cs := #[.slice A0_0 l0_0.length c0_0]) (t := 40) ?hr ?_; (case hd => rfl); (case hg => rfl); (case hr => first | (go_simp; done) | (go_simp; rfl)); intro gb289 hg w26 hbox hb; have n0_ := Aside0.mk (below_step (zB HB.out) hb); have n1_ := Aside0.mk (hbox); have n2_ := Aside0.mk ((by rw [hg]; exact (zS HB.out) : w.heap.size ≤ gb289)); have n3_ := Aside0.mk ((by rw [hg]; exact (zS HB.out) : w.heap.size ≤ gb289)); clear HB; have HB := n0_; have BK289 := n1_; have GW289 := n2_; have GE289 := n3_; clear n0_ n1_ n2_ n3_; clear hb hbox hg))
   replace BK289 := Aside0.mk (blk_drew BK289.out); replace HB := Aside0.mk (below_drew1 HB.out); refine start_ (n := 34) (S := fun w' => w'.cell? ⟨gb289, 0, none⟩ = some (.slice A0_0 l0_0.length c0_0)) (ds := []) bA0 (by kernel_rfl) rfl rfl ((blk_cell BK289.out 0).trans rfl) (fun hHeld => ?_); refine with_tabW spec_IsSemigroup.tab1 spec_IsSemigroup.bits1 (fun HT_ HW_ => ?_); generalize w26.drew = w27 at BK289 HB hHeld ⊢; refine zp 0 (some 3) ?_ bA7 rfl rfl HT_ (by kernel_rfl) (fun _ _ _ h => h) (by rfl) ?_ ?_ ?_ ?_; rotate_left
   ·intro w'; go_simp; (with_reducible rfl)
   rotate_left
   ·simp only [Act.put, qA, qB, qC, i64_w, i32_w]; rfl
   refine zt 1 (some 4) ?_ bA13 rfl rfl HT_ HW_ (by kernel_rfl) (fun _ _ _ h => h) (by rfl) ?_ hHeld ?_ ?_ ?_; rotate_left
   ·intro w' s0; go_simp; (with_reducible rfl)
   rotate_left
   ·simp only [Act.put, qA, qB, qC, i64_w, i32_w]; rfl
   refine one_ (i := 2) (N := some 5) bA18 rfl rfl (one_of HT_.out (by kernel_rfl)) (by decide) (fun K hK => ?_); refine goes_ Try.func123 (by kernel_rfl) rfl #[.slice A0_0 l0_0.length c0_0] (by rfl) rfl rfl (by (try simp only [za, zc, zn]); first | done | rfl | (simp only [List.length_drop, List.length_take]; rfl)) ?_; (with_reducible refine (spec_l3Gens.calls k _ _ l0_0 true _ ?side1 ?side2 A2.out).mono ?_); (case side1 => exact zC (Kd.C_below HR0_0.out HB.out)); (case side2 => exact HC0_0.out); rintro e w' ⟨rfl, ⟨nd, rfl⟩⟩; refine ⟨_, rfl, ?_⟩; refine hK.out _ _ ((blk_cell BK289.out 0).trans rfl) (fun hHeld => ?_); clear hK K; refine norm_ (a' := ?_) ?_ ?_; rotate_left
   ·show Act.put _ (some 5) _ = _; simp only [Act.put, qA, qB, qC, i64_w, i32_w]; rfl
   refine zp 3 (some 6) ?_ bA27 rfl rfl HT_ (by kernel_rfl) (fun _ _ _ h => h) (by rfl) ?_ ?_ ?_ ?_; rotate_left
   ·intro w'; go_simp; (with_reducible rfl)
   rotate_left
   ·simp only [Act.put, qA, qB, qC, i64_w, i32_w]; rfl
   refine zp 4 (some 7) ?_ bA35 rfl rfl HT_ (by kernel_rfl) (fun _ _ _ h => h) (by rfl) ?_ ?_ ?_ ?_; rotate_left
   ·intro w'; go_simp; (with_reducible rfl)
   rotate_left
   ·simp only [Act.put, qA, qB, qC, i64_w, i32_w]; rfl
   refine zt 5 (some 8) ?_ bA40 rfl rfl HT_ HW_ (by kernel_rfl) (fun _ _ _ h => h) (by rfl) ?_ hHeld ?_ ?_ ?_; rotate_left
   ·intro w' s0; go_simp; (with_reducible rfl)
   rotate_left
   ·simp only [Act.put, qA, qB, qC, i64_w, i32_w]; rfl
   refine zp 6 (some 9) ?_ bA46 rfl rfl HT_ (by kernel_rfl) (fun _ _ _ h => h) (by rfl) ?_ ?_ ?_ ?_; rotate_left
   ·intro w'; go_simp; (with_reducible rfl)
   rotate_left
   ·simp only [Act.put, qA, qB, qC, i64_w, i32_w]; rfl
   refine zp 7 (some 10) ?_ bA54 rfl rfl HT_ (by kernel_rfl) (fun _ _ _ h => h) (by rfl) ?_ ?_ ?_ ?_; rotate_left
   ·intro w'; go_simp; (with_reducible rfl)
   rotate_left
   ·simp only [Act.put, qA, qB, qC, i64_w, i32_w]; rfl
   refine zp 8 (some 11) ?_ bA58 rfl rfl HT_ (by kernel_rfl) (fun _ _ _ h => h) (by rfl) ?_ ?_ ?_ ?_; rotate_left
   ·intro w'; go_simp; (with_reducible rfl)
   rotate_left
   ·simp only [Act.put, qA, qB, qC, i64_w, i32_w]; rfl
   refine zp 9 (some 12) ?_ bA62 rfl rfl HT_ (by kernel_rfl) (fun _ _ _ h => h) (by rfl) ?_ ?_ ?_ ?_; rotate_left
   ·intro w'; go_simp; (with_reducible rfl)
   rotate_left
   ·simp only [Act.put, qA, qB, qC, i64_w, i32_w]; rfl
   refine zu 10 (some 13) bA67 rfl rfl HT_ (by kernel_rfl) (fun _ _ _ h => h) (by rfl) ?_ ?_ ?_; rotate_left
   ·simp only [Act.put, qA, qB, qC, i64_w, i32_w]; rfl
   refine zu 11 (some 14) bA71 rfl rfl HT_ (by kernel_rfl) (fun _ _ _ h => h) (by rfl) ?_ ?_ ?_; rotate_left
   ·simp only [Act.put, qA, qB, qC, i64_w, i32_w]; rfl
   refine zu 12 (some 15) bA74 rfl rfl HT_ (by kernel_rfl) (fun _ _ _ h => h) (by rfl) ?_ ?_ ?_; rotate_left
   ·simp only [Act.put, qA, qB, qC, i64_w, i32_w]; rfl
   refine zp 13 (some 16) ?_ bA76 rfl rfl HT_ (by kernel_rfl) (fun _ _ _ h => h) (by rfl) ?_ ?_ ?_ ?_; rotate_left
   ·intro w'; go_simp; (with_reducible rfl)
   rotate_left
   ·simp only [Act.put, qA, qB, qC, i64_w, i32_w]; rfl
   refine zp 14 (some 17) ?_ bA77 rfl rfl HT_ (by kernel_rfl) (fun _ _ _ h => h) (by rfl) ?_ ?_ ?_ ?_; rotate_left
   ·intro w'; go_simp; (with_reducible rfl)
   rotate_left
   ·simp only [Act.put, qA, qB, qC, i64_w, i32_w]; rfl
   refine zu 15 (some 18) bA79 rfl rfl HT_ (by kernel_rfl) (fun _ _ _ h => h) (by rfl) ?_ ?_ ?_; rotate_left
   ·simp only [Act.put, qA, qB, qC, i64_w, i32_w]; rfl
   refine zu 16 (some 19) bA81 rfl rfl HT_ (by kernel_rfl) (fun _ _ _ h => h) (by rfl) ?_ ?_ ?_; rotate_left
   ·simp only [Act.put, qA, qB, qC, i64_w, i32_w]; rfl
   refine zu 17 (some 20) bA83 rfl rfl HT_ (by kernel_rfl) (fun _ _ _ h => h) (by rfl) ?_ ?_ ?_; rotate_left
   ·simp only [Act.put, qA, qB, qC, i64_w, i32_w]; rfl
   refine zu 18 (some 21) bA85 rfl rfl HT_ (by kernel_rfl) (fun _ _ _ h => h) (by rfl) ?_ ?_ ?_; rotate_left
   ·simp only [Act.put, qA, qB, qC, i64_w, i32_w]; rfl
   refine zp 19 (some 22) ?_ bA86 rfl rfl HT_ (by kernel_rfl) (fun _ _ _ h => h) (by rfl) ?_ ?_ ?_ ?_; rotate_left
   ·intro w'; go_simp; (with_reducible rfl)
   rotate_left
   ·simp only [Act.put, qA, qB, qC, i64_w, i32_w]; rfl
   refine zp 20 (some 23) ?_ bA87 rfl rfl HT_ (by kernel_rfl) (fun _ _ _ h => h) (by rfl) ?_ ?_ ?_ ?_; rotate_left
   ·intro w'; go_simp; (with_reducible rfl)
   rotate_left
   ·simp only [Act.put, qA, qB, qC, i64_w, i32_w]; rfl
   refine zu 21 (some 24) bA88 rfl rfl HT_ (by kernel_rfl) (fun _ _ _ h => h) (by rfl) ?_ ?_ ?_; rotate_left
   ·simp only [Act.put, qA, qB, qC, i64_w, i32_w]; rfl
   refine zu 22 (some 25) bA90 rfl rfl HT_ (by kernel_rfl) (fun _ _ _ h => h) (by rfl) ?_ ?_ ?_; rotate_left
   ·simp only [Act.put, qA, qB, qC, i64_w, i32_w]; rfl
   refine zu 23 (some 26) bA93 rfl rfl HT_ (by kernel_rfl) (fun _ _ _ h => h) (by rfl) ?_ ?_ ?_; rotate_left
   ·simp only [Act.put, qA, qB, qC, i64_w, i32_w]; rfl
   refine zu 24 (some 27) bA94 rfl rfl HT_ (by kernel_rfl) (fun _ _ _ h => h) (by rfl) ?_ ?_ ?_; rotate_left
   ·simp only [Act.put, qA, qB, qC, i64_w, i32_w]; rfl
   refine zu 25 (some 28) bA95 rfl rfl HT_ (by kernel_rfl) (fun _ _ _ h => h) (by rfl) ?_ ?_ ?_; rotate_left
   ·simp only [Act.put, qA, qB, qC, i64_w, i32_w]; rfl
   refine zu 26 (some 29) bA96 rfl rfl HT_ (by kernel_rfl) (fun _ _ _ h => h) (by rfl) ?_ ?_ ?_; rotate_left
   ·simp only [Act.put, qA, qB, qC, i64_w, i32_w]; rfl
   refine zp 27 (some 30) ?_ bA97 rfl rfl HT_ (by kernel_rfl) (fun _ _ _ h => h) (by rfl) ?_ ?_ ?_ ?_; rotate_left
   ·intro w'; go_simp; (with_reducible rfl)
   rotate_left
   ·simp only [Act.put, qA, qB, qC, i64_w, i32_w]; rfl
   refine zp 28 (some 31) ?_ bA98 rfl rfl HT_ (by kernel_rfl) (fun _ _ _ h => h) (by rfl) ?_ ?_ ?_ ?_; rotate_left
   ·intro w'; go_simp; (with_reducible rfl)
   rotate_left
   ·simp only [Act.put, qA, qB, qC, i64_w, i32_w]; rfl
   refine zu 29 (some 32) bA99 rfl rfl HT_ (by kernel_rfl) (fun _ _ _ h => h) (by rfl) ?_ ?_ ?_; rotate_left
   ·simp only [Act.put, qA, qB, qC, i64_w, i32_w]; rfl
   refine zu 30 (some 33) bA100 rfl rfl HT_ (by kernel_rfl) (fun _ _ _ h => h) (by rfl) ?_ ?_ ?_; rotate_left
   ·simp only [Act.put, qA, qB, qC, i64_w, i32_w]; rfl
   refine zu 31 (some 34) bA101 rfl rfl HT_ (by kernel_rfl) (fun _ _ _ h => h) (by rfl) ?_ ?_ ?_; rotate_left
   ·simp only [Act.put, qA, qB, qC, i64_w, i32_w]; rfl
   refine zp 32 (some 35) ?_ bA102 rfl rfl HT_ (by kernel_rfl) (fun _ _ _ h => h) (by rfl) ?_ ?_ ?_ ?_; rotate_left
   ·intro w'; go_simp; (with_reducible rfl)
   rotate_left
   ·simp only [Act.put, qA, qB, qC, i64_w, i32_w]; rfl
   refine zp 33 (some 2) ?_ bA103 rfl rfl HT_ (by kernel_rfl) (fun _ _ _ h => h) (by rfl) ?_ ?_ ?_ ?_; rotate_left
   ·intro w'; go_simp; (with_reducible rfl)
   rotate_left
   ·simp only [Act.put, qA, qB, qC, i64_w, i32_w]; rfl
   refine done_ (done_of HT_.out (by kernel_rfl)) ?_
   try go_wp2
   go_ret
   exact ⟨by first | rfl | (simp [*, errW_none, errW_some] <;> rfl), by repeat (first | (with_reducible first | exact HB.out | apply below_alloc | apply pw_below_drewN | apply below_drew1 | refine below_set ?_ GE289.out) | exact HB.out)⟩
 ·replace c3 := Bool.eq_false_iff.mpr c3; subst c3; rw [zF] at H; obtain rfl := Option.some.inj H; go_enter Try.func54, Try.ntmps54
  try go_wp2_with (first | ((with_reducible refine gate_dst (N := 1) rfl ?_); refine box_event ?hg (N := 1) ?hd (cs := #[.slice A0_0 l0_0.length c0_0]) (t := 40) ?hr ?_; (case hd => rfl); (case hg => rfl); (case hr => first | (go_simp; done) | (go_simp; rfl)); intro gb289 hg w28 hbox hb; have n0_ := Aside0.mk (below_step (zB HB.out) hb); have n1_ := Aside0.mk (hbox); have n2_ := Aside0.mk ((by rw [hg]; exact (zS HB.out) : w.heap.size ≤ gb289)); have n3_ := Aside0.mk ((by rw [hg]; exact (zS HB.out) : w.heap.size ≤ gb289)); clear HB; have HB := n0_; have BK289 := n1_; have GW289 := n2_; have GE289 := n3_; clear n0_ n1_ n2_ n3_; clear hb hbox hg))
  replace BK289 := Aside0.mk (blk_drew BK289.out); replace HB := Aside0.mk (below_drew1 HB.out); refine start_ (n := 34) (S := fun w' => w'.cell? ⟨gb289, 0, none⟩ = some (.slice A0_0 l0_0.length c0_0)) (ds := []) bA0 (by kernel_rfl) rfl rfl ((blk_cell BK289.out 0).trans rfl) (fun hHeld => ?_); refine with_tabW spec_IsSemigroup.tab1 spec_IsSemigroup.bits1 (fun HT_ HW_ => ?_); generalize w28.drew = w29 at BK289 HB hHeld ⊢; refine zp 0 (some 3) ?_ bA7 rfl rfl HT_ (by kernel_rfl) (fun _ _ _ h => h) (by rfl) ?_ ?_ ?_ ?_; rotate_left
  ·intro w'; go_simp; (with_reducible rfl)
  rotate_left
  ·simp only [Act.put, qA, qB, qC, i64_w, i32_w]; rfl
  refine zt 1 (some 4) ?_ bA13 rfl rfl HT_ HW_ (by kernel_rfl) (fun _ _ _ h => h) (by rfl) ?_ hHeld ?_ ?_ ?_; rotate_left
  ·intro w' s0; go_simp; (with_reducible rfl)
  rotate_left
  ·simp only [Act.put, qA, qB, qC, i64_w, i32_w]; rfl
  refine one_ (i := 2) (N := some 5) bA18 rfl rfl (one_of HT_.out (by kernel_rfl)) (by decide) (fun K hK => ?_); refine goes_ Try.func123 (by kernel_rfl) rfl #[.slice A0_0 l0_0.length c0_0] (by rfl) rfl rfl (by (try simp only [za, zc, zn]); first | done | rfl | (simp only [List.length_drop, List.length_take]; rfl)) ?_; (with_reducible refine (spec_l3Gens.calls k _ _ l0_0 false _ ?side1 ?side2 A2.out).mono ?_); (case side1 => exact zC (Kd.C_below HR0_0.out HB.out)); (case side2 => exact HC0_0.out); rintro e w' ⟨rfl, ⟨nd, rfl⟩⟩; refine ⟨_, rfl, ?_⟩; refine hK.out _ _ ((blk_cell BK289.out 0).trans rfl) (fun hHeld => ?_); clear hK K; refine norm_ (a' := ?_) ?_ ?_; rotate_left
  ·show Act.put _ (some 5) _ = _; simp only [Act.put, qA, qB, qC, i64_w, i32_w]; rfl
  refine zp 3 (some 6) ?_ bA27 rfl rfl HT_ (by kernel_rfl) (fun _ _ _ h => h) (by rfl) ?_ ?_ ?_ ?_; rotate_left
  ·intro w'; go_simp; (with_reducible rfl)
  rotate_left
  ·simp only [Act.put, qA, qB, qC, i64_w, i32_w]; rfl
  refine zu 4 (some 7) bA35 rfl rfl HT_ (by kernel_rfl) (fun _ _ _ h => h) (by rfl) ?_ ?_ ?_; rotate_left
  ·simp only [Act.put, qA, qB, qC, i64_w, i32_w]; rfl
  refine zu 5 (some 8) bA40 rfl rfl HT_ (by kernel_rfl) (fun _ _ _ h => h) (by rfl) ?_ ?_ ?_; rotate_left
  ·simp only [Act.put, qA, qB, qC, i64_w, i32_w]; rfl
  refine zu 6 (some 9) bA46 rfl rfl HT_ (by kernel_rfl) (fun _ _ _ h => h) (by rfl) ?_ ?_ ?_; rotate_left
  ·simp only [Act.put, qA, qB, qC, i64_w, i32_w]; rfl
  refine zu 7 (some 10) bA54 rfl rfl HT_ (by kernel_rfl) (fun _ _ _ h => h) (by rfl) ?_ ?_ ?_; rotate_left
  ·simp only [Act.put, qA, qB, qC, i64_w, i32_w]; rfl
  refine zp 8 (some 11) ?_ bA58 rfl rfl HT_ (by kernel_rfl) (fun _ _ _ h => h) (by rfl) ?_ ?_ ?_ ?_; rotate_left
  ·intro w'; go_simp; (with_reducible rfl)
  rotate_left
  ·simp only [Act.put, qA, qB, qC, i64_w, i32_w]; rfl
  refine zp 9 (some 12) ?_ bA62 rfl rfl HT_ (by kernel_rfl) (fun _ _ _ h => h) (by rfl) ?_ ?_ ?_ ?_; rotate_left
  ·intro w'; go_simp; (with_reducible rfl)
  rotate_left
  ·simp only [Act.put, qA, qB, qC, i64_w, i32_w]; rfl
  refine zu 10 (some 13) bA67 rfl rfl HT_ (by kernel_rfl) (fun _ _ _ h => h) (by rfl) ?_ ?_ ?_; rotate_left
  ·simp only [Act.put, qA, qB, qC, i64_w, i32_w]; rfl
  refine zu 11 (some 14) bA71 rfl rfl HT_ (by kernel_rfl) (fun _ _ _ h => h) (by rfl) ?_ ?_ ?_; rotate_left
  ·simp only [Act.put, qA, qB, qC, i64_w, i32_w]; rfl
  refine zu 12 (some 15) bA74 rfl rfl HT_ (by kernel_rfl) (fun _ _ _ h => h) (by rfl) ?_ ?_ ?_; rotate_left
  ·simp only [Act.put, qA, qB, qC, i64_w, i32_w]; rfl
  refine zp 13 (some 16) ?_ bA76 rfl rfl HT_ (by kernel_rfl) (fun _ _ _ h => h) (by rfl) ?_ ?_ ?_ ?_; rotate_left
  ·intro w'; go_simp; (with_reducible rfl)
  rotate_left
  ·simp only [Act.put, qA, qB, qC, i64_w, i32_w]; rfl
  refine zp 14 (some 17) ?_ bA77 rfl rfl HT_ (by kernel_rfl) (fun _ _ _ h => h) (by rfl) ?_ ?_ ?_ ?_; rotate_left
  ·intro w'; go_simp; (with_reducible rfl)
  rotate_left
  ·simp only [Act.put, qA, qB, qC, i64_w, i32_w]; rfl
  refine zu 15 (some 18) bA79 rfl rfl HT_ (by kernel_rfl) (fun _ _ _ h => h) (by rfl) ?_ ?_ ?_; rotate_left
  ·simp only [Act.put, qA, qB, qC, i64_w, i32_w]; rfl
  refine zu 16 (some 19) bA81 rfl rfl HT_ (by kernel_rfl) (fun _ _ _ h => h) (by rfl) ?_ ?_ ?_; rotate_left
  ·simp only [Act.put, qA, qB, qC, i64_w, i32_w]; rfl
  refine zu 17 (some 20) bA83 rfl rfl HT_ (by kernel_rfl) (fun _ _ _ h => h) (by rfl) ?_ ?_ ?_; rotate_left
  ·simp only [Act.put, qA, qB, qC, i64_w, i32_w]; rfl
  refine zu 18 (some 21) bA85 rfl rfl HT_ (by kernel_rfl) (fun _ _ _ h => h) (by rfl) ?_ ?_ ?_; rotate_left
  ·simp only [Act.put, qA, qB, qC, i64_w, i32_w]; rfl
  refine zp 19 (some 22) ?_ bA86 rfl rfl HT_ (by kernel_rfl) (fun _ _ _ h => h) (by rfl) ?_ ?_ ?_ ?_; rotate_left
  ·intro w'; go_simp; (with_reducible rfl)
  rotate_left
  ·simp only [Act.put, qA, qB, qC, i64_w, i32_w]; rfl
  refine zp 20 (some 23) ?_ bA87 rfl rfl HT_ (by kernel_rfl) (fun _ _ _ h => h) (by rfl) ?_ ?_ ?_ ?_; rotate_left
  ·intro w'; go_simp; (with_reducible rfl)
  rotate_left
  ·simp only [Act.put, qA, qB, qC, i64_w, i32_w]; rfl
  refine zu 21 (some 24) bA88 rfl rfl HT_ (by kernel_rfl) (fun _ _ _ h => h) (by rfl) ?_ ?_ ?_; rotate_left
  ·simp only [Act.put, qA, qB, qC, i64_w, i32_w]; rfl
  refine zu 22 (some 25) bA90 rfl rfl HT_ (by kernel_rfl) (fun _ _ _ h => h) (by rfl) ?_ ?_ ?_; rotate_left
  ·simp only [Act.put, qA, qB, qC, i64_w, i32_w]; rfl
  refine zu 23 (some 26) bA93 rfl rfl HT_ (by kernel_rfl) (fun _ _ _ h => h) (by rfl) ?_ ?_ ?_; rotate_left
  ·simp only [Act.put, qA, qB, qC, i64_w, i32_w]; rfl
  refine zu 24 (some 27) bA94 rfl rfl HT_ (by kernel_rfl) (fun _ _ _ h => h) (by rfl) ?_ ?_ ?_; rotate_left
  ·simp only [Act.put, qA, qB, qC, i64_w, i32_w]; rfl
  refine zu 25 (some 28) bA95 rfl rfl HT_ (by kernel_rfl) (fun _ _ _ h => h) (by rfl) ?_ ?_ ?_; rotate_left
  ·simp only [Act.put, qA, qB, qC, i64_w, i32_w]; rfl
  refine zu 26 (some 29) bA96 rfl rfl HT_ (by kernel_rfl) (fun _ _ _ h => h) (by rfl) ?_ ?_ ?_; rotate_left
  ·simp only [Act.put, qA, qB, qC, i64_w, i32_w]; rfl
  refine zp 27 (some 30) ?_ bA97 rfl rfl HT_ (by kernel_rfl) (fun _ _ _ h => h) (by rfl) ?_ ?_ ?_ ?_; rotate_left
  ·intro w'; go_simp; (with_reducible rfl)
  rotate_left
  ·simp only [Act.put, qA, qB, qC, i64_w, i32_w]; rfl
  refine zp 28 (some 31) ?_ bA98 rfl rfl HT_ (by kernel_rfl) (fun _ _ _ h => h) (by rfl) ?_ ?_ ?_ ?_; rotate_left
  ·intro w'; go_simp; (with_reducible rfl)
  rotate_left
  ·simp only [Act.put, qA, qB, qC, i64_w, i32_w]; rfl
  refine zu 29 (some 32) bA99 rfl rfl HT_ (by kernel_rfl) (fun _ _ _ h => h) (by rfl) ?_ ?_ ?_; rotate_left
  ·simp only [Act.put, qA, qB, qC, i64_w, i32_w]; rfl
  refine zu 30 (some 33) bA100 rfl rfl HT_ (by kernel_rfl) (fun _ _ _ h => h) (by rfl) ?_ ?_ ?_; rotate_left
  ·simp only [Act.put, qA, qB, qC, i64_w, i32_w]; rfl
  refine zu 31 (some 34) bA101 rfl rfl HT_ (by kernel_rfl) (fun _ _ _ h => h) (by rfl) ?_ ?_ ?_; rotate_left
  ·simp only [Act.put, qA, qB, qC, i64_w, i32_w]; rfl
  refine zp 32 (some 35) ?_ bA102 rfl rfl HT_ (by kernel_rfl) (fun _ _ _ h => h) (by rfl) ?_ ?_ ?_ ?_; rotate_left
  ·intro w'; go_simp; (with_reducible rfl)
  rotate_left
  ·simp only [Act.put, qA, qB, qC, i64_w, i32_w]; rfl
  refine zp 33 (some 2) ?_ bA103 rfl rfl HT_ (by kernel_rfl) (fun _ _ _ h => h) (by rfl) ?_ ?_ ?_ ?_; rotate_left
  ·intro w'; go_simp; (with_reducible rfl)
  rotate_left
  ·simp only [Act.put, qA, qB, qC, i64_w, i32_w]; rfl
  refine done_ (done_of HT_.out (by kernel_rfl)) ?_
  try go_wp2
  go_ret
  exact ⟨by first | rfl | (simp [*, errW_none, errW_some] <;> rfl), by repeat (first | (with_reducible first | exact HB.out | apply below_alloc | apply pw_below_drewN | apply below_drew1 | refine below_set ?_ GE289.out) | exact HB.out)⟩

end Go.Proofs.Ytbagfnppeidonaa.PFnFromGaps
