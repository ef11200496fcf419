-- Written by a program of this session (a turned copy of the kit's print; see NOTES.md).
import Derived.Test.YthednemidaegkaaPFnAperyx0
import Derived.Test.YthednemidaegkaaPFnAperyx4
namespace Go.Proofs.Ythednemidaegkaa.PFnApery
open Go.RowKit Go.Proofs.YthednemidaegkaaW.PrintWords Go.Proofs.YthednemidaegkaaW.PrintLast Go.Proofs.YthednemidaegkaaW.PrintMore
attribute [local go_sem] max2_int min2_int max_two min_two max_three min_three max_four min_four   -- for this text's walks alone
set_option linter.unusedVariables false
set_option linter.unusedSimpArgs false

/-! ### spec_IsSemigroup: function 30 -/
def spec_IsSemigroup.f (k : Nat) (l0_0 : List Int) : Option (Bool) := (spec_l3Gens.f k l0_0).bind fun t203 => (if t203 = true then (if (l0_0.length : Int) ≤ 12 then ((spec_IsAscending.f k l0_0).bind fun t204 => (if t204 = true then ((spec_GcdOfList.f k l0_0).bind fun t205 => (if t205 = 1 then ((spec_l3Minimal.f k l0_0).bind fun t206 => ((spec_l2Same.f k t206 l0_0).bind fun t209 => (if t209 = true then ((spec_l3Ends.f k l0_0).bind fun t210 => (some t210)) else (some false)))) else (some false))) else (some false))) else (some false)) else (some false))
def spec_IsSemigroup.T1 : Bool × List (List Nat × List Nat) := (true, [([], []), ([0], [0]), ([1], [1]), ([2, 2], [2]), ([3], [3]), ([4, 3], [3, 4]), ([5, 3], [3, 5]), ([6, 3], [3, 6]), ([3, 7], [3, 7]), ([8, 3], [8]), ([9], [9]), ([10, 9], [9, 10]), ([11, 9, 9], [9, 11]), ([9, 12], [9, 12]), ([13, 12], [13]), ([14], [14]), ([15, 14], [14, 15]), ([16, 14, 14], [14, 16]), ([17, 14], [14, 17]), ([14, 18], [14, 18]), ([19, 17], [19]), ([20], [20]), ([21, 20], [20, 21]), ([22, 20, 20], [20, 22]), ([20], [20]), ([24, 20], [20, 24]), ([23, 25, 23, 20], [20, 23, 25]), ([20, 26], [20, 26]), ([27, 26], [27]), ([28], [28]), ([29, 28], [28, 29]), ([30, 28, 28], [28, 30]), ([28, 31], [28, 31]), ([32, 31, 0, 1, 2, 3, 4, 5, 6, 7, 8, 9, 10, 11, 12, 13, 14, 15, 16, 17, 18, 19, 20, 21, 22, 23, 24, 25, 26, 27, 28, 29, 30, 31, 32], [32])])
def spec_IsSemigroup.B1 : List Nat := [0, 1, 3, 7, 15, 31, 63, 127, 255, 511, 1023, 2047, 4095, 8191, 16383, 32767, 65535, 131071, 262143, 524287, 1048575, 2097151, 4194303, 8388607, 2097151, 18874367, 67108863, 134217727, 268435455, 536870911, 1073741823, 2147483647, 4294967295, 8589934591]
theorem spec_IsSemigroup.tab1 : rtab .any (opsOf Try.f30 1) = spec_IsSemigroup.T1 := by kernel_rfl
theorem spec_IsSemigroup.bits1 : waitsOk spec_IsSemigroup.T1.2 spec_IsSemigroup.B1 = true := by kernel_rfl
set_option maxHeartbeats 8000000 in
set_option maxRecDepth 100000 in
theorem spec_IsSemigroup.calls (k : Nat) (A0_0 : Option Addr) (c0_0 : Nat) (l0_0 : List Int) (r : Bool) (w : World) (hr0_0 : Kd.C (Kd.int .i64) w A0_0 l0_0.length l0_0) (hc0_0 : l0_0.length ≤ c0_0) (h : spec_IsSemigroup.f k l0_0 = some r) :
  Calls Try.prog 30 #[.agg #[.slice A0_0 l0_0.length c0_0]] w fun e w' => e = .returned (.bool r) ∧ Below w.heap.size w w' := by
 have hu26 := Try.underlying26; have HR0_0 := Aside0.mk hr0_0; have HC0_0 := Aside0.mk hc0_0; clear hr0_0 hc0_0; have HB := Aside0.mk (Below.refl w.heap.size w); have H : ((spec_l3Gens.f k l0_0).bind fun t203 => (if t203 = true then (if (l0_0.length : Int) ≤ 12 then ((spec_IsAscending.f k l0_0).bind fun t204 => (if t204 = true then ((spec_GcdOfList.f k l0_0).bind fun t205 => (if t205 = 1 then ((spec_l3Minimal.f k l0_0).bind fun t206 => ((spec_l2Same.f k t206 l0_0).bind fun t209 => (if t209 = true then ((spec_l3Ends.f k l0_0).bind fun t210 => (some t210)) else (some false)))) else (some false))) else (some false))) else (some false)) else (some false))) = some r := h; clear h; obtain ⟨t203, A2, H⟩ := zb H
 by_cases c3 : t203 = true
 ·subst c3; rw [zT] at H
  by_cases c4 : (l0_0.length : Int) ≤ 12
  ·rw [if_pos c4] at H; have c4b0 : decide ((l0_0.length : Int) ≤ 12) = true := decide_eq_true c4; have c4b1 : decide (l0_0.length ≤ 12) = true := decide_eq_true (by omega); clear c4; obtain ⟨t204, A5, H⟩ := zb H
   by_cases c6 : t204 = true
   ·subst c6; rw [zT] at H; obtain ⟨t205, A7, H⟩ := zb H
    by_cases c8 : t205 = 1
    ·rw [if_pos c8] at H; have c8b0 : (t205 == 1) = true := beq_iff_eq.mpr c8; have c8b1 : (t205 != 1) = false := bne_eq_false_iff_eq.mpr c8; clear c8; obtain ⟨t206, A9, H⟩ := zb H; obtain ⟨t209, A10, H⟩ := zb H
     by_cases c11 : t209 = true
     ·subst c11; rw [zT] at H; obtain ⟨t210, A12, H⟩ := zb H; obtain rfl := Option.some.inj H; go_enter Try.func30, Try.ntmps30
      try go_wp2_with (first | ((with_reducible refine gate_dst (N := 1) rfl ?_); refine box_event ?hg (N := 1) ?hd (cs := #[.slice A0_0 l0_0.length c0_0]) (t := 26) ?hr ?_; (case hd => rfl); (case hg => rfl); (case hr => first | (go_simp; done) | (go_simp; rfl)); intro gb202 hg w13 hbox hb; have BK202 := Aside0.mk (hbox); have GW202 := Aside0.mk ((by rw [hg]; exact (zS HB.out) : w.heap.size ≤ gb202)); have GE202 := Aside0.mk ((by rw [hg]; exact (zS HB.out) : w.heap.size ≤ gb202)); replace HB := Aside0.mk (below_step (zB HB.out) hb); have := Ge.mk GE202.out; clear hb hbox hg))
      replace BK202 := Aside0.mk (blk_drew BK202.out); replace HB := Aside0.mk (below_drew1 HB.out); refine start_ (n := 34) (S := fun w' => w'.cell? ⟨gb202, 0, none⟩ = some (.slice A0_0 l0_0.length c0_0)) (ds := []) bA1 (by kernel_rfl) rfl rfl ((blk_cell BK202.out 0).trans rfl) (fun hHeld => ?_); refine with_tabW spec_IsSemigroup.tab1 spec_IsSemigroup.bits1 (fun HT_ HW_ => ?_); generalize w13.drew = w14 at BK202 HB hHeld ⊢; refine zP 0 (some 3) ?_ bA11 rfl rfl HT_ ?_ ?_ ?_ ?_; rotate_left
      ·intro w'; go_simp; (with_reducible rfl)
      rotate_left
      ·simp only [Act.put, qA, qB, qC, i64_w]; rfl
      refine zZ 1 (some 4) ?_ bA19 rfl rfl HT_ HW_ ?_ hHeld ?_ ?_ ?_; rotate_left
      ·intro w' s0; go_simp; (with_reducible rfl)
      rotate_left
      ·simp only [Act.put, qA, qB, qC, i64_w]; rfl
      refine one_ (i := 2) (N := some 5) bA28 rfl rfl (one_of HT_.out (by kernel_rfl)) (by decide) (fun K hK => ?_); refine goes_ Try.func57 (by kernel_rfl) rfl #[.slice A0_0 l0_0.length c0_0] (by rfl) rfl rfl (by (try simp only [za, zc, zn]); first | done | rfl) ?_; (with_reducible refine (spec_l3Gens.calls k _ _ l0_0 true _ ?side1 ?side2 A2.out).mono ?_); (case side1 => exact zC (Kd.C_below HR0_0.out HB.out)); (case side2 => exact HC0_0.out); rintro e w' ⟨rfl, ⟨nd, rfl⟩⟩; refine ⟨_, rfl, ?_⟩; refine hK.out _ _ ((blk_cell BK202.out 0).trans rfl) (fun hHeld => ?_); clear hK K; refine norm_ (a' := ?_) ?_ ?_; rotate_left
      ·show Act.put _ (some 5) _ = _; simp only [Act.put, qA, qB, qC, i64_w]; rfl
      refine zP 3 (some 6) ?_ bA40 rfl rfl HT_ ?_ ?_ ?_ ?_; rotate_left
      ·intro w'; go_simp; (with_reducible rfl)
      rotate_left
      ·simp only [Act.put, qA, qB, qC, i64_w]; rfl
      refine zP 4 (some 7) ?_ bA50 rfl rfl HT_ ?_ ?_ ?_ ?_; rotate_left
      ·intro w'; go_simp; (with_reducible rfl)
      rotate_left
      ·simp only [Act.put, qA, qB, qC, i64_w]; rfl
      refine zZ 5 (some 8) ?_ bA57 rfl rfl HT_ HW_ ?_ hHeld ?_ ?_ ?_; rotate_left
      ·intro w' s0; go_simp; (with_reducible rfl)
      rotate_left
      ·simp only [Act.put, qA, qB, qC, i64_w]; rfl
      refine zP 6 (some 9) ?_ bA65 rfl rfl HT_ ?_ ?_ ?_ ?_; rotate_left
      ·intro w'; go_simp; (with_reducible rfl)
      rotate_left
      ·simp only [Act.put, qA, qB, qC, i64_w]; rfl
      refine zP 7 (some 10) ?_ bA76 rfl rfl HT_ ?_ ?_ ?_ ?_; rotate_left
      ·intro w'; go_simp; (with_reducible rfl)
      rotate_left
      ·simp only [Act.put, qA, qB, qC, i64_w]; rfl
      refine zP 8 (some 11) ?_ bA81 rfl rfl HT_ ?_ ?_ ?_ ?_; rotate_left
      ·intro w'; go_simp; (with_reducible rfl)
      rotate_left
      ·simp only [Act.put, qA, qB, qC, i64_w]; rfl
      refine zP 9 (some 12) ?_ bA92 rfl rfl HT_ ?_ ?_ ?_ ?_; rotate_left
      ·intro w'; go_simp; (with_reducible rfl)
      rotate_left
      ·simp only [Act.put, qA, qB, qC, i64_w]; rfl
      refine zP 10 (some 13) ?_ bA99 rfl rfl HT_ ?_ ?_ ?_ ?_; rotate_left
      ·intro w'; go_simp; (with_reducible rfl)
      rotate_left
      ·simp only [Act.put, qA, qB, qC, i64_w]; rfl
      refine zZ 11 (some 14) ?_ bA105 rfl rfl HT_ HW_ ?_ hHeld ?_ ?_ ?_; rotate_left
      ·intro w' s0; go_simp; (with_reducible rfl)
      rotate_left
      ·simp only [Act.put, qA, qB, qC, i64_w]; rfl
      refine one_ (i := 12) (N := some 15) bA111 rfl rfl (one_of HT_.out (by kernel_rfl)) (by decide) (fun K hK => ?_); refine goes_ Try.func66 (by kernel_rfl) rfl #[.slice A0_0 l0_0.length c0_0] (by rfl) rfl rfl (by (try simp only [za, zc, zn]); first | done | rfl) ?_; (with_reducible refine (spec_IsAscending.calls k _ _ l0_0 true _ ?side1 ?side2 A5.out).mono ?_); (case side1 => exact Kd.C_below HR0_0.out (zB HB.out)); (case side2 => exact HC0_0.out); rintro e w' ⟨rfl, ⟨nd, rfl⟩⟩; refine ⟨_, rfl, ?_⟩; refine hK.out _ _ ((blk_cell BK202.out 0).trans rfl) (fun hHeld => ?_); clear hK K; refine norm_ (a' := ?_) ?_ ?_; rotate_left
      ·show Act.put _ (some 15) _ = _; simp only [Act.put, qA, qB, qC, i64_w]; rfl
      refine zP 13 (some 16) ?_ bA116 rfl rfl HT_ ?_ ?_ ?_ ?_; rotate_left
      ·intro w'; go_simp; (with_reducible rfl)
      rotate_left
      ·simp only [Act.put, qA, qB, qC, i64_w]; rfl
      refine zP 14 (some 17) ?_ bA120 rfl rfl HT_ ?_ ?_ ?_ ?_; rotate_left
      ·intro w'; go_simp; (with_reducible rfl)
      rotate_left
      ·simp only [Act.put, qA, qB, qC, i64_w]; rfl
      refine zP 15 (some 18) ?_ bA124 rfl rfl HT_ ?_ ?_ ?_ ?_; rotate_left
      ·intro w'; go_simp; (with_reducible rfl)
      rotate_left
      ·simp only [Act.put, qA, qB, qC, i64_w]; rfl
      refine zZ 16 (some 19) ?_ bA128 rfl rfl HT_ HW_ ?_ hHeld ?_ ?_ ?_; rotate_left
      ·intro w' s0; go_simp; (with_reducible rfl)
      rotate_left
      ·simp only [Act.put, qA, qB, qC, i64_w]; rfl
      refine one_ (i := 17) (N := some 20) bA132 rfl rfl (one_of HT_.out (by kernel_rfl)) (by decide) (fun K hK => ?_); refine goes_ Try.func61 (by kernel_rfl) rfl #[.slice A0_0 l0_0.length c0_0] (by rfl) rfl rfl (by (try simp only [za, zc, zn]); first | done | rfl) ?_; (with_reducible refine (spec_GcdOfList.calls k _ _ l0_0 t205 _ ?side1 ?side2 A7.out).mono ?_); (case side1 => exact Kd.C_below HR0_0.out (zB HB.out)); (case side2 => exact HC0_0.out); rintro e w' ⟨rfl, ⟨nd, rfl⟩⟩; refine ⟨_, rfl, ?_⟩; refine hK.out _ _ ((blk_cell BK202.out 0).trans rfl) (fun hHeld => ?_); clear hK K; refine norm_ (a' := ?_) ?_ ?_; rotate_left
      ·show Act.put _ (some 20) _ = _; simp only [Act.put, qA, qB, qC, i64_w]; rfl
      refine zP 18 (some 21) ?_ bA136 rfl rfl HT_ ?_ ?_ ?_ ?_; rotate_left
      ·intro w'; go_simp; (with_reducible rfl)
      rotate_left
      ·simp only [Act.put, qA, qB, qC, i64_w]; rfl
      refine zP 19 (some 22) ?_ bA140 rfl rfl HT_ ?_ ?_ ?_ ?_; rotate_left
      ·intro w'; go_simp; (with_reducible rfl)
      rotate_left
      ·simp only [Act.put, qA, qB, qC, i64_w]; rfl
      refine zP 20 (some 23) ?_ bA144 rfl rfl HT_ ?_ ?_ ?_ ?_; rotate_left
      ·intro w'; go_simp; (with_reducible rfl)
      rotate_left
      ·simp only [Act.put, qA, qB, qC, i64_w]; rfl
      refine zP 21 (some 24) ?_ bA149 rfl rfl HT_ ?_ ?_ ?_ ?_; rotate_left
      ·intro w'; go_simp; (with_reducible rfl)
      rotate_left
      ·simp only [Act.put, qA, qB, qC, i64_w]; rfl
      refine zP 24 (some 27) ?_ bA150 rfl rfl HT_ ?_ ?_ ?_ ?_; rotate_left
      ·intro w'; go_simp; (with_reducible rfl)
      rotate_left
      ·simp only [Act.put, qA, qB, qC, i64_w]; rfl
      refine zZ 22 (some 25) ?_ bA154 rfl rfl HT_ HW_ ?_ hHeld ?_ ?_ ?_; rotate_left
      ·intro w' s0; go_simp; (with_reducible rfl)
      rotate_left
      ·simp only [Act.put, qA, qB, qC, i64_w]; rfl
      refine zZ 25 (some 28) ?_ bA155 rfl rfl HT_ HW_ ?_ hHeld ?_ ?_ ?_; rotate_left
      ·intro w' s0; go_simp; (with_reducible rfl)
      rotate_left
      ·simp only [Act.put, qA, qB, qC, i64_w]; rfl
      refine one_ (i := 23) (N := some 26) bA161 rfl rfl (one_of HT_.out (by kernel_rfl)) (by decide) (fun K hK => ?_); refine goes_ Try.func58 (by kernel_rfl) rfl #[.slice A0_0 l0_0.length c0_0] (by rfl) rfl rfl (by (try simp only [za, zc, zn]); first | done | rfl) ?_; (with_reducible refine (spec_l3Minimal.calls k _ _ l0_0 t206 _ ?side1 ?side2 A9.out).mono ?_); (case side1 => exact Kd.C_below HR0_0.out (zB HB.out)); (case side2 => exact HC0_0.out); rintro e w15 ⟨v207, rfl, ho0, hb⟩; refine ⟨_, rfl, ?_⟩; have HO208 := Aside0.mk (Kd.R_lower ho0 (zS HB.out)); replace BK202 := Aside0.mk (blk_below (zk BK202.out) hb); replace HB := Aside0.mk (below_step (zB HB.out) hb); (try clear hb); (try clear hb2); (try clear hk); (try clear hi); (try clear ho0); obtain ⟨Ao16, co16, eo16⟩ := Kd.R_slice HO208.out; (first | subst eo16 | (injection eo16 with f1_ f2_ f3_; have f4_ := f1_.symm; have f5_ := f3_.symm; clear f1_ f2_ f3_; subst f4_; subst f5_)); refine hK.out _ _ ((blk_cell BK202.out 0).trans rfl) (fun hHeld => ?_); clear hK K; refine norm_ (a' := ?_) ?_ ?_; rotate_left
      ·show Act.put _ (some 26) _ = _; simp only [Act.put, qA, qB, qC, i64_w]; rfl
      refine one_ (i := 26) (N := some 29) bA163 rfl rfl (one_of HT_.out (by kernel_rfl)) (by decide) (fun K hK => ?_); refine goes_ Try.func47 (by kernel_rfl) rfl #[.slice Ao16 t206.length co16, .slice A0_0 l0_0.length c0_0] (by rfl) rfl rfl (by (try simp only [za, zc, zn]); first | done | rfl) ?_; (with_reducible refine (spec_l2Same.calls k _ _ t206 _ _ l0_0 true _ ?side1 ?side2 ?side3 ?side4 A10.out).mono ?_); (case side1 => repeat (first | exact (Kd.R_reads' HO208.out).2.2 | (with_reducible refine Kd.C_alloc ?_ _) | (with_reducible refine Kd.C_drewN ?_ _) | (with_reducible refine Kd.C_drew ?_))); (case side2 => exact (Kd.R_reads' HO208.out).2.1); (case side3 => exact zC (Kd.C_below HR0_0.out HB.out)); (case side4 => exact HC0_0.out); rintro e w' ⟨rfl, ⟨nd, rfl⟩⟩; refine ⟨_, rfl, ?_⟩; refine hK.out _ _ ((blk_cell BK202.out 0).trans rfl) (fun hHeld => ?_); clear hK K; refine norm_ (a' := ?_) ?_ ?_; rotate_left
      ·show Act.put _ (some 29) _ = _; simp only [Act.put, qA, qB, qC, i64_w]; rfl
      refine zP 27 (some 30) ?_ bA165 rfl rfl HT_ ?_ ?_ ?_ ?_; rotate_left
      ·intro w'; go_simp; (with_reducible rfl)
      rotate_left
      ·simp only [Act.put, qA, qB, qC, i64_w]; rfl
      refine zP 28 (some 31) ?_ bA167 rfl rfl HT_ ?_ ?_ ?_ ?_; rotate_left
      ·intro w'; go_simp; (with_reducible rfl)
      rotate_left
      ·simp only [Act.put, qA, qB, qC, i64_w]; rfl
      refine zP 29 (some 32) ?_ bA169 rfl rfl HT_ ?_ ?_ ?_ ?_; rotate_left
      ·intro w'; go_simp; (with_reducible rfl)
      rotate_left
      ·simp only [Act.put, qA, qB, qC, i64_w]; rfl
      refine zZ 30 (some 33) ?_ bA171 rfl rfl HT_ HW_ ?_ hHeld ?_ ?_ ?_; rotate_left
      ·intro w' s0; go_simp; (with_reducible rfl)
      rotate_left
      ·simp only [Act.put, qA, qB, qC, i64_w]; rfl
      refine one_ (i := 31) (N := some 34) bA173 rfl rfl (one_of HT_.out (by kernel_rfl)) (by decide) (fun K hK => ?_); refine goes_ Try.func67 (by kernel_rfl) rfl #[.slice A0_0 l0_0.length c0_0] (by rfl) rfl rfl (by (try simp only [za, zc, zn]); first | done | rfl) ?_; (with_reducible refine (spec_l3Ends.calls k _ _ l0_0 t210 _ ?side1 ?side2 A12.out).mono ?_); (case side1 => exact Kd.C_below HR0_0.out (zB HB.out)); (case side2 => exact HC0_0.out); rintro e w17 ⟨rfl, hb⟩; refine ⟨_, rfl, ?_⟩; replace HO208 := Aside0.mk (Kd.R_below (zR HO208.out) hb); replace BK202 := Aside0.mk (blk_below (zk BK202.out) hb); replace HB := Aside0.mk (below_step (zB HB.out) hb); (try clear hb); (try clear hb2); (try clear hk); (try clear hi); refine hK.out _ _ ((blk_cell BK202.out 0).trans rfl) (fun hHeld => ?_); clear hK K; refine norm_ (a' := ?_) ?_ ?_; rotate_left
      ·show Act.put _ (some 34) _ = _; simp only [Act.put, qA, qB, qC, i64_w]; rfl
      refine zP 32 (some 35) ?_ bA175 rfl rfl HT_ ?_ ?_ ?_ ?_; rotate_left
      ·intro w'; go_simp; (with_reducible rfl)
      rotate_left
      ·simp only [Act.put, qA, qB, qC, i64_w]; rfl
      refine zP 33 (some 2) ?_ bA178 rfl rfl HT_ ?_ ?_ ?_ ?_; rotate_left
      ·intro w'; go_simp; (with_reducible rfl)
      rotate_left
      ·simp only [Act.put, qA, qB, qC, i64_w]; rfl
      refine done_ (done_of HT_.out (by kernel_rfl)) ?_
      try go_wp2
      go_ret
      exact ⟨by first | rfl | (simp [*, errW_none, errW_some] <;> rfl), zB HB.out⟩
     ·replace c11 := Bool.eq_false_iff.mpr c11; subst c11; rw [zF] at H; obtain rfl := Option.some.inj H; go_enter Try.func30, Try.ntmps30
      try go_wp2_with (first | ((with_reducible refine gate_dst (N := 1) rfl ?_); refine box_event ?hg (N := 1) ?hd (cs := #[.slice A0_0 l0_0.length c0_0]) (t := 26) ?hr ?_; (case hd => rfl); (case hg => rfl); (case hr => first | (go_simp; done) | (go_simp; rfl)); intro gb202 hg w18 hbox hb; have BK202 := Aside0.mk (hbox); have GW202 := Aside0.mk ((by rw [hg]; exact (zS HB.out) : w.heap.size ≤ gb202)); have GE202 := Aside0.mk ((by rw [hg]; exact (zS HB.out) : w.heap.size ≤ gb202)); replace HB := Aside0.mk (below_step (zB HB.out) hb); have := Ge.mk GE202.out; clear hb hbox hg))
      replace BK202 := Aside0.mk (blk_drew BK202.out); replace HB := Aside0.mk (below_drew1 HB.out); refine start_ (n := 34) (S := fun w' => w'.cell? ⟨gb202, 0, none⟩ = some (.slice A0_0 l0_0.length c0_0)) (ds := []) bA1 (by kernel_rfl) rfl rfl ((blk_cell BK202.out 0).trans rfl) (fun hHeld => ?_); refine with_tabW spec_IsSemigroup.tab1 spec_IsSemigroup.bits1 (fun HT_ HW_ => ?_); generalize w18.drew = w19 at BK202 HB hHeld ⊢; refine zP 0 (some 3) ?_ bA11 rfl rfl HT_ ?_ ?_ ?_ ?_; rotate_left
      ·intro w'; go_simp; (with_reducible rfl)
      rotate_left
      ·simp only [Act.put, qA, qB, qC, i64_w]; rfl
      refine zZ 1 (some 4) ?_ bA19 rfl rfl HT_ HW_ ?_ hHeld ?_ ?_ ?_; rotate_left
      ·intro w' s0; go_simp; (with_reducible rfl)
      rotate_left
      ·simp only [Act.put, qA, qB, qC, i64_w]; rfl
      refine one_ (i := 2) (N := some 5) bA28 rfl rfl (one_of HT_.out (by kernel_rfl)) (by decide) (fun K hK => ?_); refine goes_ Try.func57 (by kernel_rfl) rfl #[.slice A0_0 l0_0.length c0_0] (by rfl) rfl rfl (by (try simp only [za, zc, zn]); first | done | rfl) ?_; (with_reducible refine (spec_l3Gens.calls k _ _ l0_0 true _ ?side1 ?side2 A2.out).mono ?_); (case side1 => exact zC (Kd.C_below HR0_0.out HB.out)); (case side2 => exact HC0_0.out); rintro e w' ⟨rfl, ⟨nd, rfl⟩⟩; refine ⟨_, rfl, ?_⟩; refine hK.out _ _ ((blk_cell BK202.out 0).trans rfl) (fun hHeld => ?_); clear hK K; refine norm_ (a' := ?_) ?_ ?_; rotate_left
      ·show Act.put _ (some 5) _ = _; simp only [Act.put, qA, qB, qC, i64_w]; rfl
      refine zP 3 (some 6) ?_ bA40 rfl rfl HT_ ?_ ?_ ?_ ?_; rotate_left
      ·intro w'; go_simp; (with_reducible rfl)
      rotate_left
      ·simp only [Act.put, qA, qB, qC, i64_w]; rfl
      refine zP 4 (some 7) ?_ bA50 rfl rfl HT_ ?_ ?_ ?_ ?_; rotate_left
      ·intro w'; go_simp; (with_reducible rfl)
      rotate_left
      ·simp only [Act.put, qA, qB, qC, i64_w]; rfl
      refine zZ 5 (some 8) ?_ bA57 rfl rfl HT_ HW_ ?_ hHeld ?_ ?_ ?_; rotate_left
      ·intro w' s0; go_simp; (with_reducible rfl)
      rotate_left
      ·simp only [Act.put, qA, qB, qC, i64_w]; rfl
      refine zP 6 (some 9) ?_ bA65 rfl rfl HT_ ?_ ?_ ?_ ?_; rotate_left
      ·intro w'; go_simp; (with_reducible rfl)
      rotate_left
      ·simp only [Act.put, qA, qB, qC, i64_w]; rfl
      refine zP 7 (some 10) ?_ bA76 rfl rfl HT_ ?_ ?_ ?_ ?_; rotate_left
      ·intro w'; go_simp; (with_reducible rfl)
      rotate_left
      ·simp only [Act.put, qA, qB, qC, i64_w]; rfl
      refine zP 8 (some 11) ?_ bA81 rfl rfl HT_ ?_ ?_ ?_ ?_; rotate_left
      ·intro w'; go_simp; (with_reducible rfl)
      rotate_left
      ·simp only [Act.put, qA, qB, qC, i64_w]; rfl
      refine zP 9 (some 12) ?_ bA92 rfl rfl HT_ ?_ ?_ ?_ ?_; rotate_left
      ·intro w'; go_simp; (with_reducible rfl)
      rotate_left
      ·simp only [Act.put, qA, qB, qC, i64_w]; rfl
      refine zP 10 (some 13) ?_ bA99 rfl rfl HT_ ?_ ?_ ?_ ?_; rotate_left
      ·intro w'; go_simp; (with_reducible rfl)
      rotate_left
      ·simp only [Act.put, qA, qB, qC, i64_w]; rfl
      refine zZ 11 (some 14) ?_ bA105 rfl rfl HT_ HW_ ?_ hHeld ?_ ?_ ?_; rotate_left
      ·intro w' s0; go_simp; (with_reducible rfl)
      rotate_left
      ·simp only [Act.put, qA, qB, qC, i64_w]; rfl
      refine one_ (i := 12) (N := some 15) bA111 rfl rfl (one_of HT_.out (by kernel_rfl)) (by decide) (fun K hK => ?_); refine goes_ Try.func66 (by kernel_rfl) rfl #[.slice A0_0 l0_0.length c0_0] (by rfl) rfl rfl (by (try simp only [za, zc, zn]); first | done | rfl) ?_; (with_reducible refine (spec_IsAscending.calls k _ _ l0_0 true _ ?side1 ?side2 A5.out).mono ?_); (case side1 => exact Kd.C_below HR0_0.out (zB HB.out)); (case side2 => exact HC0_0.out); rintro e w' ⟨rfl, ⟨nd, rfl⟩⟩; refine ⟨_, rfl, ?_⟩; refine hK.out _ _ ((blk_cell BK202.out 0).trans rfl) (fun hHeld => ?_); clear hK K; refine norm_ (a' := ?_) ?_ ?_; rotate_left
      ·show Act.put _ (some 15) _ = _; simp only [Act.put, qA, qB, qC, i64_w]; rfl
      refine zP 13 (some 16) ?_ bA116 rfl rfl HT_ ?_ ?_ ?_ ?_; rotate_left
      ·intro w'; go_simp; (with_reducible rfl)
      rotate_left
      ·simp only [Act.put, qA, qB, qC, i64_w]; rfl
      refine zP 14 (some 17) ?_ bA120 rfl rfl HT_ ?_ ?_ ?_ ?_; rotate_left
      ·intro w'; go_simp; (with_reducible rfl)
      rotate_left
      ·simp only [Act.put, qA, qB, qC, i64_w]; rfl
      refine zP 15 (some 18) ?_ bA124 rfl rfl HT_ ?_ ?_ ?_ ?_; rotate_left
      ·intro w'; go_simp; (with_reducible rfl)
      rotate_left
      ·simp only [Act.put, qA, qB, qC, i64_w]; rfl
      refine zZ 16 (some 19) ?_ bA128 rfl rfl HT_ HW_ ?_ hHeld ?_ ?_ ?_; rotate_left
      ·intro w' s0; go_simp; (with_reducible rfl)
      rotate_left
      ·simp only [Act.put, qA, qB, qC, i64_w]; rfl
      refine one_ (i := 17) (N := some 20) bA132 rfl rfl (one_of HT_.out (by kernel_rfl)) (by decide) (fun K hK => ?_); refine goes_ Try.func61 (by kernel_rfl) rfl #[.slice A0_0 l0_0.length c0_0] (by rfl) rfl rfl (by (try simp only [za, zc, zn]); first | done | rfl) ?_; (with_reducible refine (spec_GcdOfList.calls k _ _ l0_0 t205 _ ?side1 ?side2 A7.out).mono ?_); (case side1 => exact Kd.C_below HR0_0.out (zB HB.out)); (case side2 => exact HC0_0.out); rintro e w' ⟨rfl, ⟨nd, rfl⟩⟩; refine ⟨_, rfl, ?_⟩; refine hK.out _ _ ((blk_cell BK202.out 0).trans rfl) (fun hHeld => ?_); clear hK K; refine norm_ (a' := ?_) ?_ ?_; rotate_left
      ·show Act.put _ (some 20) _ = _; simp only [Act.put, qA, qB, qC, i64_w]; rfl
      refine zP 18 (some 21) ?_ bA136 rfl rfl HT_ ?_ ?_ ?_ ?_; rotate_left
      ·intro w'; go_simp; (with_reducible rfl)
      rotate_left
      ·simp only [Act.put, qA, qB, qC, i64_w]; rfl
      refine zP 19 (some 22) ?_ bA140 rfl rfl HT_ ?_ ?_ ?_ ?_; rotate_left
      ·intro w'; go_simp; (with_reducible rfl)
      rotate_left
      ·simp only [Act.put, qA, qB, qC, i64_w]; rfl
      refine zP 20 (some 23) ?_ bA144 rfl rfl HT_ ?_ ?_ ?_ ?_; rotate_left
      ·intro w'; go_simp; (with_reducible rfl)
      rotate_left
      ·simp only [Act.put, qA, qB, qC, i64_w]; rfl
      refine zP 21 (some 24) ?_ bA149 rfl rfl HT_ ?_ ?_ ?_ ?_; rotate_left
      ·intro w'; go_simp; (with_reducible rfl)
      rotate_left
      ·simp only [Act.put, qA, qB, qC, i64_w]; rfl
      refine zP 24 (some 27) ?_ bA150 rfl rfl HT_ ?_ ?_ ?_ ?_; rotate_left
      ·intro w'; go_simp; (with_reducible rfl)
      rotate_left
      ·simp only [Act.put, qA, qB, qC, i64_w]; rfl
      refine zZ 22 (some 25) ?_ bA154 rfl rfl HT_ HW_ ?_ hHeld ?_ ?_ ?_; rotate_left
      ·intro w' s0; go_simp; (with_reducible rfl)
      rotate_left
      ·simp only [Act.put, qA, qB, qC, i64_w]; rfl
      refine zZ 25 (some 28) ?_ bA155 rfl rfl HT_ HW_ ?_ hHeld ?_ ?_ ?_; rotate_left
      ·intro w' s0; go_simp; (with_reducible rfl)
      rotate_left
      ·simp only [Act.put, qA, qB, qC, i64_w]; rfl
      refine one_ (i := 23) (N := some 26) bA161 rfl rfl (one_of HT_.out (by kernel_rfl)) (by decide) (fun K hK => ?_); refine goes_ Try.func58 (by kernel_rfl) rfl #[.slice A0_0 l0_0.length c0_0] (by rfl) rfl rfl (by (try simp only [za, zc, zn]); first | done | rfl) ?_; (with_reducible refine (spec_l3Minimal.calls k _ _ l0_0 t206 _ ?side1 ?side2 A9.out).mono ?_); (case side1 => exact Kd.C_below HR0_0.out (zB HB.out)); (case side2 => exact HC0_0.out); rintro e w20 ⟨v207, rfl, ho0, hb⟩; refine ⟨_, rfl, ?_⟩; have HO208 := Aside0.mk (Kd.R_lower ho0 (zS HB.out)); replace BK202 := Aside0.mk (blk_below (zk BK202.out) hb); replace HB := Aside0.mk (below_step (zB HB.out) hb); (try clear hb); (try clear hb2); (try clear hk); (try clear hi); (try clear ho0); obtain ⟨Ao21, co21, eo21⟩ := Kd.R_slice HO208.out; (first | subst eo21 | (injection eo21 with f1_ f2_ f3_; have f4_ := f1_.symm; have f5_ := f3_.symm; clear f1_ f2_ f3_; subst f4_; subst f5_)); refine hK.out _ _ ((blk_cell BK202.out 0).trans rfl) (fun hHeld => ?_); clear hK K; refine norm_ (a' := ?_) ?_ ?_; rotate_left
      ·show Act.put _ (some 26) _ = _; simp only [Act.put, qA, qB, qC, i64_w]; rfl
      refine one_ (i := 26) (N := some 29) bA163 rfl rfl (one_of HT_.out (by kernel_rfl)) (by decide) (fun K hK => ?_); refine goes_ Try.func47 (by kernel_rfl) rfl #[.slice Ao21 t206.length co21, .slice A0_0 l0_0.length c0_0] (by rfl) rfl rfl (by (try simp only [za, zc, zn]); first | done | rfl) ?_; (with_reducible refine (spec_l2Same.calls k _ _ t206 _ _ l0_0 false _ ?side1 ?side2 ?side3 ?side4 A10.out).mono ?_); (case side1 => repeat (first | exact (Kd.R_reads' HO208.out).2.2 | (with_reducible refine Kd.C_alloc ?_ _) | (with_reducible refine Kd.C_drewN ?_ _) | (with_reducible refine Kd.C_drew ?_))); (case side2 => exact (Kd.R_reads' HO208.out).2.1); (case side3 => exact zC (Kd.C_below HR0_0.out HB.out)); (case side4 => exact HC0_0.out); rintro e w' ⟨rfl, ⟨nd, rfl⟩⟩; refine ⟨_, rfl, ?_⟩; refine hK.out _ _ ((blk_cell BK202.out 0).trans rfl) (fun hHeld => ?_); clear hK K; refine norm_ (a' := ?_) ?_ ?_; rotate_left
      ·show Act.put _ (some 29) _ = _; simp only [Act.put, qA, qB, qC, i64_w]; rfl
      refine zP 27 (some 30) ?_ bA165 rfl rfl HT_ ?_ ?_ ?_ ?_; rotate_left
      ·intro w'; go_simp; (with_reducible rfl)
      rotate_left
      ·simp only [Act.put, qA, qB, qC, i64_w]; rfl
      refine zP 28 (some 31) ?_ bA167 rfl rfl HT_ ?_ ?_ ?_ ?_; rotate_left
      ·intro w'; go_simp; (with_reducible rfl)
      rotate_left
      ·simp only [Act.put, qA, qB, qC, i64_w]; rfl
      refine zU 29 (some 32) bA169 rfl rfl HT_ ?_ ?_ ?_; rotate_left
      ·simp only [Act.put, qA, qB, qC, i64_w]; rfl
      refine zU 30 (some 33) bA171 rfl rfl HT_ ?_ ?_ ?_; rotate_left
      ·simp only [Act.put, qA, qB, qC, i64_w]; rfl
      refine zU 31 (some 34) bA173 rfl rfl HT_ ?_ ?_ ?_; rotate_left
      ·simp only [Act.put, qA, qB, qC, i64_w]; rfl
      refine zP 32 (some 35) ?_ bA175 rfl rfl HT_ ?_ ?_ ?_ ?_; rotate_left
      ·intro w'; go_simp; (with_reducible rfl)
      rotate_left
      ·simp only [Act.put, qA, qB, qC, i64_w]; rfl
      refine zP 33 (some 2) ?_ bA178 rfl rfl HT_ ?_ ?_ ?_ ?_; rotate_left
      ·intro w'; go_simp; (with_reducible rfl)
      rotate_left
      ·simp only [Act.put, qA, qB, qC, i64_w]; rfl
      refine done_ (done_of HT_.out (by kernel_rfl)) ?_
      try go_wp2
      go_ret
      exact ⟨by first | rfl | (simp [*, errW_none, errW_some] <;> rfl), zB HB.out⟩
    ·rw [if_neg c8] at H; have c8b0 : (t205 == 1) = false := beq_eq_false_iff_ne.mpr c8; have c8b1 : (t205 != 1) = true := bne_iff_ne.mpr c8; obtain rfl := Option.some.inj H; go_enter Try.func30, Try.ntmps30
     try go_wp2_with (first | ((with_reducible refine gate_dst (N := 1) rfl ?_); refine box_event ?hg (N := 1) ?hd (cs := #[.slice A0_0 l0_0.length c0_0]) (t := 26) ?hr ?_; (case hd => rfl); (case hg => rfl); (case hr => first | (go_simp; done) | (go_simp; rfl)); intro gb202 hg w22 hbox hb; have BK202 := Aside0.mk (hbox); have GW202 := Aside0.mk ((by rw [hg]; exact (zS HB.out) : w.heap.size ≤ gb202)); have GE202 := Aside0.mk ((by rw [hg]; exact (zS HB.out) : w.heap.size ≤ gb202)); replace HB := Aside0.mk (below_step (zB HB.out) hb); have := Ge.mk GE202.out; clear hb hbox hg))
     replace BK202 := Aside0.mk (blk_drew BK202.out); replace HB := Aside0.mk (below_drew1 HB.out); refine start_ (n := 34) (S := fun w' => w'.cell? ⟨gb202, 0, none⟩ = some (.slice A0_0 l0_0.length c0_0)) (ds := []) bA1 (by kernel_rfl) rfl rfl ((blk_cell BK202.out 0).trans rfl) (fun hHeld => ?_); refine with_tabW spec_IsSemigroup.tab1 spec_IsSemigroup.bits1 (fun HT_ HW_ => ?_); generalize w22.drew = w23 at BK202 HB hHeld ⊢; refine zP 0 (some 3) ?_ bA11 rfl rfl HT_ ?_ ?_ ?_ ?_; rotate_left
     ·intro w'; go_simp; (with_reducible rfl)
     rotate_left
     ·simp only [Act.put, qA, qB, qC, i64_w]; rfl
     refine zZ 1 (some 4) ?_ bA19 rfl rfl HT_ HW_ ?_ hHeld ?_ ?_ ?_; rotate_left
     ·intro w' s0; go_simp; (with_reducible rfl)
     rotate_left
     ·simp only [Act.put, qA, qB, qC, i64_w]; rfl
     refine one_ (i := 2) (N := some 5) bA28 rfl rfl (one_of HT_.out (by kernel_rfl)) (by decide) (fun K hK => ?_); refine goes_ Try.func57 (by kernel_rfl) rfl #[.slice A0_0 l0_0.length c0_0] (by rfl) rfl rfl (by (try simp only [za, zc, zn]); first | done | rfl) ?_; (with_reducible refine (spec_l3Gens.calls k _ _ l0_0 true _ ?side1 ?side2 A2.out).mono ?_); (case side1 => exact zC (Kd.C_below HR0_0.out HB.out)); (case side2 => exact HC0_0.out); rintro e w' ⟨rfl, ⟨nd, rfl⟩⟩; refine ⟨_, rfl, ?_⟩; refine hK.out _ _ ((blk_cell BK202.out 0).trans rfl) (fun hHeld => ?_); clear hK K; refine norm_ (a' := ?_) ?_ ?_; rotate_left
     ·show Act.put _ (some 5) _ = _; simp only [Act.put, qA, qB, qC, i64_w]; rfl
     refine zP 3 (some 6) ?_ bA40 rfl rfl HT_ ?_ ?_ ?_ ?_; rotate_left
     ·intro w'; go_simp; (with_reducible rfl)
     rotate_left
     ·simp only [Act.put, qA, qB, qC, i64_w]; rfl
     refine zP 4 (some 7) ?_ bA50 rfl rfl HT_ ?_ ?_ ?_ ?_; rotate_left
     ·intro w'; go_simp; (with_reducible rfl)
     rotate_left
     ·simp only [Act.put, qA, qB, qC, i64_w]; rfl
     refine zZ 5 (some 8) ?_ bA57 rfl rfl HT_ HW_ ?_ hHeld ?_ ?_ ?_; rotate_left
     ·intro w' s0; go_simp; (with_reducible rfl)
     rotate_left
     ·simp only [Act.put, qA, qB, qC, i64_w]; rfl
     refine zP 6 (some 9) ?_ bA65 rfl rfl HT_ ?_ ?_ ?_ ?_; rotate_left
     ·intro w'; go_simp; (with_reducible rfl)
     rotate_left
     ·simp only [Act.put, qA, qB, qC, i64_w]; rfl
     refine zP 7 (some 10) ?_ bA76 rfl rfl HT_ ?_ ?_ ?_ ?_; rotate_left
     ·intro w'; go_simp; (with_reducible rfl)
     rotate_left
     ·simp only [Act.put, qA, qB, qC, i64_w]; rfl
     refine zP 8 (some 11) ?_ bA81 rfl rfl HT_ ?_ ?_ ?_ ?_; rotate_left
     ·intro w'; go_simp; (with_reducible rfl)
     rotate_left
     ·simp only [Act.put, qA, qB, qC, i64_w]; rfl
     refine zP 9 (some 12) ?_ bA92 rfl rfl HT_ ?_ ?_ ?_ ?_; rotate_left
     ·intro w'; go_simp; (with_reducible rfl)
     rotate_left
     ·simp only [Act.put, qA, qB, qC, i64_w]; rfl
     refine zP 10 (some 13) ?_ bA99 rfl rfl HT_ ?_ ?_ ?_ ?_; rotate_left
     ·intro w'; go_simp; (with_reducible rfl)
     rotate_left
     ·simp only [Act.put, qA, qB, qC, i64_w]; rfl
     refine zZ 11 (some 14) ?_ bA105 rfl rfl HT_ HW_ ?_ hHeld ?_ ?_ ?_; rotate_left
     ·intro w' s0; go_simp; (with_reducible rfl)
     rotate_left
     ·simp only [Act.put, qA, qB, qC, i64_w]; rfl
     refine one_ (i := 12) (N := some 15) bA111 rfl rfl (one_of HT_.out (by kernel_rfl)) (by decide) (fun K hK => ?_); refine goes_ Try.func66 (by kernel_rfl) rfl #[.slice A0_0 l0_0.length c0_0] (by rfl) rfl rfl (by (try simp only [za, zc, zn]); first | done | rfl) ?_; (with_reducible refine (spec_IsAscending.calls k _ _ l0_0 true _ ?side1 ?side2 A5.out).mono ?_); (case side1 => exact Kd.C_below HR0_0.out (zB HB.out)); (case side2 => exact HC0_0.out); rintro e w' ⟨rfl, ⟨nd, rfl⟩⟩; refine ⟨_, rfl, ?_⟩; refine hK.out _ _ ((blk_cell BK202.out 0).trans rfl) (fun hHeld => ?_); clear hK K; refine norm_ (a' := ?_) ?_ ?_; rotate_left
     ·show Act.put _ (some 15) _ = _; simp only [Act.put, qA, qB, qC, i64_w]; rfl
     refine zP 13 (some 16) ?_ bA116 rfl rfl HT_ ?_ ?_ ?_ ?_; rotate_left
     ·intro w'; go_simp; (with_reducible rfl)
     rotate_left
     ·simp only [Act.put, qA, qB, qC, i64_w]; rfl
     refine zP 14 (some 17) ?_ bA120 rfl rfl HT_ ?_ ?_ ?_ ?_; rotate_left
     ·intro w'; go_simp; (with_reducible rfl)
     rotate_left
     ·simp only [Act.put, qA, qB, qC, i64_w]; rfl
     refine zP 15 (some 18) ?_ bA124 rfl rfl HT_ ?_ ?_ ?_ ?_; rotate_left
     ·intro w'; go_simp; (with_reducible rfl)
     rotate_left
     ·simp only [Act.put, qA, qB, qC, i64_w]; rfl
     refine zZ 16 (some 19) ?_ bA128 rfl rfl HT_ HW_ ?_ hHeld ?_ ?_ ?_; rotate_left
     ·intro w' s0; go_simp; (with_reducible rfl)
     rotate_left
     ·simp only [Act.put, qA, qB, qC, i64_w]; rfl
     refine one_ (i := 17) (N := some 20) bA132 rfl rfl (one_of HT_.out (by kernel_rfl)) (by decide) (fun K hK => ?_); refine goes_ Try.func61 (by kernel_rfl) rfl #[.slice A0_0 l0_0.length c0_0] (by rfl) rfl rfl (by (try simp only [za, zc, zn]); first | done | rfl) ?_; (with_reducible refine (spec_GcdOfList.calls k _ _ l0_0 t205 _ ?side1 ?side2 A7.out).mono ?_); (case side1 => exact Kd.C_below HR0_0.out (zB HB.out)); (case side2 => exact HC0_0.out); rintro e w' ⟨rfl, ⟨nd, rfl⟩⟩; refine ⟨_, rfl, ?_⟩; refine hK.out _ _ ((blk_cell BK202.out 0).trans rfl) (fun hHeld => ?_); clear hK K; refine norm_ (a' := ?_) ?_ ?_; rotate_left
     ·show Act.put _ (some 20) _ = _; simp only [Act.put, qA, qB, qC, i64_w]; rfl
     refine zP 18 (some 21) ?_ bA136 rfl rfl HT_ ?_ ?_ ?_ ?_; rotate_left
     ·intro w'; go_simp; (with_reducible rfl)
     rotate_left
     ·simp only [Act.put, qA, qB, qC, i64_w]; rfl
     refine zP 19 (some 22) ?_ bA140 rfl rfl HT_ ?_ ?_ ?_ ?_; rotate_left
     ·intro w'; go_simp; (with_reducible rfl)
     rotate_left
     ·simp only [Act.put, qA, qB, qC, i64_w]; rfl
     refine zP 20 (some 23) ?_ bA144 rfl rfl HT_ ?_ ?_ ?_ ?_; rotate_left
     ·intro w'; go_simp; (with_reducible rfl)
     rotate_left
     ·simp only [Act.put, qA, qB, qC, i64_w]; rfl
     refine zU 21 (some 24) bA149 rfl rfl HT_ ?_ ?_ ?_; rotate_left
     ·simp only [Act.put, qA, qB, qC, i64_w]; rfl
     refine zU 22 (some 25) bA153 rfl rfl HT_ ?_ ?_ ?_; rotate_left
     ·simp only [Act.put, qA, qB, qC, i64_w]; rfl
     refine zU 23 (some 26) bA157 rfl rfl HT_ ?_ ?_ ?_; rotate_left
     ·simp only [Act.put, qA, qB, qC, i64_w]; rfl
     refine zU 24 (some 27) bA159 rfl rfl HT_ ?_ ?_ ?_; rotate_left
     ·simp only [Act.put, qA, qB, qC, i64_w]; rfl
     refine zU 25 (some 28) bA161 rfl rfl HT_ ?_ ?_ ?_; rotate_left
     ·simp only [Act.put, qA, qB, qC, i64_w]; rfl
     refine zU 26 (some 29) bA163 rfl rfl HT_ ?_ ?_ ?_; rotate_left
     ·simp only [Act.put, qA, qB, qC, i64_w]; rfl
     refine zP 27 (some 30) ?_ bA165 rfl rfl HT_ ?_ ?_ ?_ ?_; rotate_left
     ·intro w'; go_simp; (with_reducible rfl)
     rotate_left
     ·simp only [Act.put, qA, qB, qC, i64_w]; rfl
     refine zP 28 (some 31) ?_ bA167 rfl rfl HT_ ?_ ?_ ?_ ?_; rotate_left
     ·intro w'; go_simp; (with_reducible rfl)
     rotate_left
     ·simp only [Act.put, qA, qB, qC, i64_w]; rfl
     refine zU 29 (some 32) bA169 rfl rfl HT_ ?_ ?_ ?_; rotate_left
     ·simp only [Act.put, qA, qB, qC, i64_w]; rfl
     refine zU 30 (some 33) bA171 rfl rfl HT_ ?_ ?_ ?_; rotate_left
     ·simp only [Act.put, qA, qB, qC, i64_w]; rfl
     refine zU 31 (some 34) bA173 rfl rfl HT_ ?_ ?_ ?_; rotate_left
     ·simp only [Act.put, qA, qB, qC, i64_w]; rfl
     refine zP 32 (some 35) ?_ bA175 rfl rfl HT_ ?_ ?_ ?_ ?_; rotate_left
     ·intro w'; go_simp; (with_reducible rfl)
     rotate_left
     ·simp only [Act.put, qA, qB, qC, i64_w]; rfl
     refine zP 33 (some 2) ?_ bA178 rfl rfl HT_ ?_ ?_ ?_ ?_; rotate_left
     ·intro w'; go_simp; (with_reducible rfl)
     rotate_left
     ·simp only [Act.put, qA, qB, qC, i64_w]; rfl
     refine done_ (done_of HT_.out (by kernel_rfl)) ?_
     try go_wp2
     go_ret
     exact ⟨by first | rfl | (simp [*, errW_none, errW_some] <;> rfl), zB HB.out⟩
   ·replace c6 := Bool.eq_false_iff.mpr c6; subst c6; rw [zF] at H; obtain rfl := Option.some.inj H; go_enter Try.func30, Try.ntmps30
    try go_wp2_with (first | ((with_reducible refine gate_dst (N := 1) rfl ?_); refine box_event ?hg (N := 1) ?hd (cs := #[.slice A0_0 l0_0.length c0_0]) (t := 26) ?hr ?_; (case hd => rfl); (case hg => rfl); (case hr => first | (go_simp; done) | (go_simp; rfl)); intro gb202 hg w24 hbox hb; have BK202 := Aside0.mk (hbox); have GW202 := Aside0.mk ((by rw [hg]; exact (zS HB.out) : w.heap.size ≤ gb202)); have GE202 := Aside0.mk ((by rw [hg]; exact (zS HB.out) : w.heap.size ≤ gb202)); replace HB := Aside0.mk (below_step (zB HB.out) hb); have := Ge.mk GE202.out; clear hb hbox hg))
    replace BK202 := Aside0.mk (blk_drew BK202.out); replace HB := Aside0.mk (below_drew1 HB.out); refine start_ (n := 34) (S := fun w' => w'.cell? ⟨gb202, 0, none⟩ = some (.slice A0_0 l0_0.length c0_0)) (ds := []) bA1 (by kernel_rfl) rfl rfl ((blk_cell BK202.out 0).trans rfl) (fun hHeld => ?_); refine with_tabW spec_IsSemigroup.tab1 spec_IsSemigroup.bits1 (fun HT_ HW_ => ?_); generalize w24.drew = w25 at BK202 HB hHeld ⊢; refine zP 0 (some 3) ?_ bA11 rfl rfl HT_ ?_ ?_ ?_ ?_; rotate_left
    ·intro w'; go_simp; (with_reducible rfl)
    rotate_left
    ·simp only [Act.put, qA, qB, qC, i64_w]; rfl
    refine zZ 1 (some 4) ?_ bA19 rfl rfl HT_ HW_ ?_ hHeld ?_ ?_ ?_; rotate_left
    ·intro w' s0; go_simp; (with_reducible rfl)
    rotate_left
    ·simp only [Act.put, qA, qB, qC, i64_w]; rfl
    refine one_ (i := 2) (N := some 5) bA28 rfl rfl (one_of HT_.out (by kernel_rfl)) (by decide) (fun K hK => ?_); refine goes_ Try.func57 (by kernel_rfl) rfl #[.slice A0_0 l0_0.length c0_0] (by rfl) rfl rfl (by (try simp only [za, zc, zn]); first | done | rfl) ?_; (with_reducible refine (spec_l3Gens.calls k _ _ l0_0 true _ ?side1 ?side2 A2.out).mono ?_); (case side1 => exact zC (Kd.C_below HR0_0.out HB.out)); (case side2 => exact HC0_0.out); rintro e w' ⟨rfl, ⟨nd, rfl⟩⟩; refine ⟨_, rfl, ?_⟩; refine hK.out _ _ ((blk_cell BK202.out 0).trans rfl) (fun hHeld => ?_); clear hK K; refine norm_ (a' := ?_) ?_ ?_; rotate_left
    ·show Act.put _ (some 5) _ = _; simp only [Act.put, qA, qB, qC, i64_w]; rfl
    refine zP 3 (some 6) ?_ bA40 rfl rfl HT_ ?_ ?_ ?_ ?_; rotate_left
    ·intro w'; go_simp; (with_reducible rfl)
    rotate_left
    ·simp only [Act.put, qA, qB, qC, i64_w]; rfl
    refine zP 4 (some 7) ?_ bA50 rfl rfl HT_ ?_ ?_ ?_ ?_; rotate_left
    ·intro w'; go_simp; (with_reducible rfl)
    rotate_left
    ·simp only [Act.put, qA, qB, qC, i64_w]; rfl
    refine zZ 5 (some 8) ?_ bA57 rfl rfl HT_ HW_ ?_ hHeld ?_ ?_ ?_; rotate_left
    ·intro w' s0; go_simp; (with_reducible rfl)
    rotate_left
    ·simp only [Act.put, qA, qB, qC, i64_w]; rfl
    refine zP 6 (some 9) ?_ bA65 rfl rfl HT_ ?_ ?_ ?_ ?_; rotate_left
    ·intro w'; go_simp; (with_reducible rfl)
    rotate_left
    ·simp only [Act.put, qA, qB, qC, i64_w]; rfl
    refine zP 7 (some 10) ?_ bA76 rfl rfl HT_ ?_ ?_ ?_ ?_; rotate_left
    ·intro w'; go_simp; (with_reducible rfl)
    rotate_left
    ·simp only [Act.put, qA, qB, qC, i64_w]; rfl
    refine zP 8 (some 11) ?_ bA81 rfl rfl HT_ ?_ ?_ ?_ ?_; rotate_left
    ·intro w'; go_simp; (with_reducible rfl)
    rotate_left
    ·simp only [Act.put, qA, qB, qC, i64_w]; rfl
    refine zP 9 (some 12) ?_ bA92 rfl rfl HT_ ?_ ?_ ?_ ?_; rotate_left
    ·intro w'; go_simp; (with_reducible rfl)
    rotate_left
    ·simp only [Act.put, qA, qB, qC, i64_w]; rfl
    refine zP 10 (some 13) ?_ bA99 rfl rfl HT_ ?_ ?_ ?_ ?_; rotate_left
    ·intro w'; go_simp; (with_reducible rfl)
    rotate_left
    ·simp only [Act.put, qA, qB, qC, i64_w]; rfl
    refine zZ 11 (some 14) ?_ bA105 rfl rfl HT_ HW_ ?_ hHeld ?_ ?_ ?_; rotate_left
    ·intro w' s0; go_simp; (with_reducible rfl)
    rotate_left
    ·simp only [Act.put, qA, qB, qC, i64_w]; rfl
    refine one_ (i := 12) (N := some 15) bA111 rfl rfl (one_of HT_.out (by kernel_rfl)) (by decide) (fun K hK => ?_); refine goes_ Try.func66 (by kernel_rfl) rfl #[.slice A0_0 l0_0.length c0_0] (by rfl) rfl rfl (by (try simp only [za, zc, zn]); first | done | rfl) ?_; (with_reducible refine (spec_IsAscending.calls k _ _ l0_0 false _ ?side1 ?side2 A5.out).mono ?_); (case side1 => exact Kd.C_below HR0_0.out (zB HB.out)); (case side2 => exact HC0_0.out); rintro e w' ⟨rfl, ⟨nd, rfl⟩⟩; refine ⟨_, rfl, ?_⟩; refine hK.out _ _ ((blk_cell BK202.out 0).trans rfl) (fun hHeld => ?_); clear hK K; refine norm_ (a' := ?_) ?_ ?_; rotate_left
    ·show Act.put _ (some 15) _ = _; simp only [Act.put, qA, qB, qC, i64_w]; rfl
    refine zP 13 (some 16) ?_ bA116 rfl rfl HT_ ?_ ?_ ?_ ?_; rotate_left
    ·intro w'; go_simp; (with_reducible rfl)
    rotate_left
    ·simp only [Act.put, qA, qB, qC, i64_w]; rfl
    refine zP 14 (some 17) ?_ bA120 rfl rfl HT_ ?_ ?_ ?_ ?_; rotate_left
    ·intro w'; go_simp; (with_reducible rfl)
    rotate_left
    ·simp only [Act.put, qA, qB, qC, i64_w]; rfl
    refine zU 15 (some 18) bA124 rfl rfl HT_ ?_ ?_ ?_; rotate_left
    ·simp only [Act.put, qA, qB, qC, i64_w]; rfl
    refine zU 16 (some 19) bA128 rfl rfl HT_ ?_ ?_ ?_; rotate_left
    ·simp only [Act.put, qA, qB, qC, i64_w]; rfl
    refine zU 17 (some 20) bA132 rfl rfl HT_ ?_ ?_ ?_; rotate_left
    ·simp only [Act.put, qA, qB, qC, i64_w]; rfl
    refine zU 18 (some 21) bA136 rfl rfl HT_ ?_ ?_ ?_; rotate_left
    ·simp only [Act.put, qA, qB, qC, i64_w]; rfl
    refine zP 19 (some 22) ?_ bA140 rfl rfl HT_ ?_ ?_ ?_ ?_; rotate_left
    ·intro w'; go_simp; (with_reducible rfl)
    rotate_left
    ·simp only [Act.put, qA, qB, qC, i64_w]; rfl
    refine zP 20 (some 23) ?_ bA144 rfl rfl HT_ ?_ ?_ ?_ ?_; rotate_left
    ·intro w'; go_simp; (with_reducible rfl)
    rotate_left
    ·simp only [Act.put, qA, qB, qC, i64_w]; rfl
    refine zU 21 (some 24) bA149 rfl rfl HT_ ?_ ?_ ?_; rotate_left
    ·simp only [Act.put, qA, qB, qC, i64_w]; rfl
    refine zU 22 (some 25) bA153 rfl rfl HT_ ?_ ?_ ?_; rotate_left
    ·simp only [Act.put, qA, qB, qC, i64_w]; rfl
    refine zU 23 (some 26) bA157 rfl rfl HT_ ?_ ?_ ?_; rotate_left
    ·simp only [Act.put, qA, qB, qC, i64_w]; rfl
    refine zU 24 (some 27) bA159 rfl rfl HT_ ?_ ?_ ?_; rotate_left
    ·simp only [Act.put, qA, qB, qC, i64_w]; rfl
    refine zU 25 (some 28) bA161 rfl rfl HT_ ?_ ?_ ?_; rotate_left
    ·simp only [Act.put, qA, qB, qC, i64_w]; rfl
    refine zU 26 (some 29) bA163 rfl rfl HT_ ?_ ?_ ?_; rotate_left
    ·simp only [Act.put, qA, qB, qC, i64_w]; rfl
    refine zP 27 (some 30) ?_ bA165 rfl rfl HT_ ?_ ?_ ?_ ?_; rotate_left
    ·intro w'; go_simp; (with_reducible rfl)
    rotate_left
    ·simp only [Act.put, qA, qB, qC, i64_w]; rfl
    refine zP 28 (some 31) ?_ bA167 rfl rfl HT_ ?_ ?_ ?_ ?_; rotate_left
    ·intro w'; go_simp; (with_reducible rfl)
    rotate_left
    ·simp only [Act.put, qA, qB, qC, i64_w]; rfl
    refine zU 29 (some 32) bA169 rfl rfl HT_ ?_ ?_ ?_; rotate_left
    ·simp only [Act.put, qA, qB, qC, i64_w]; rfl
    refine zU 30 (some 33) bA171 rfl rfl HT_ ?_ ?_ ?_; rotate_left
    ·simp only [Act.put, qA, qB, qC, i64_w]; rfl
    refine zU 31 (some 34) bA173 rfl rfl HT_ ?_ ?_ ?_; rotate_left
    ·simp only [Act.put, qA, qB, qC, i64_w]; rfl
    refine zP 32 (some 35) ?_ bA175 rfl rfl HT_ ?_ ?_ ?_ ?_; rotate_left
    ·intro w'; go_simp; (with_reducible rfl)
    rotate_left
    ·simp only [Act.put, qA, qB, qC, i64_w]; rfl
    refine zP 33 (some 2) ?_ bA178 rfl rfl HT_ ?_ ?_ ?_ ?_; rotate_left
    ·intro w'; go_simp; (with_reducible rfl)
    rotate_left
    ·simp only [Act.put, qA, qB, qC, i64_w]; rfl
    refine done_ (done_of HT_.out (by kernel_rfl)) ?_
    try go_wp2
    go_ret
    exact ⟨by first | rfl | (simp [*, errW_none, errW_some] <;> rfl), zB HB.out⟩
  ·rw [if_neg c4] at H; have c4b0 : decide ((l0_0.length : Int) ≤ 12) = false := decide_eq_false c4; have c4b1 : decide (l0_0.length ≤ 12) = false := decide_eq_false (by omega); clear c4; obtain rfl := Option.some.inj H; go_enter Try.func30, Try.ntmps30
   try go_wp2_with (first | ((with_reducible refine gate_dst (N := 1) rfl ?_); refine box_event ?hg (N := 1) ?hd (cs := #[.slice A0_0 l0_0.length c0_0]) (t := 26) ?hr ?_; (case hd => rfl); (case hg => rfl); (case hr => first | (go_simp; done) | (go_simp; rfl)); intro gb202 hg w26 hbox hb; have BK202 := Aside0.mk (hbox); have GW202 := Aside0.mk ((by rw [hg]; exact (zS HB.out) : w.heap.size ≤ gb202)); have GE202 := Aside0.mk ((by rw [hg]; exact (zS HB.out) : w.heap.size ≤ gb202)); replace HB := Aside0.mk (below_step (zB HB.out) hb); have := Ge.mk GE202.out; clear hb hbox hg))
   replace BK202 := Aside0.mk (blk_drew BK202.out); replace HB := Aside0.mk (below_drew1 HB.out); refine start_ (n := 34) (S := fun w' => w'.cell? ⟨gb202, 0, none⟩ = some (.slice A0_0 l0_0.length c0_0)) (ds := []) bA1 (by kernel_rfl) rfl rfl ((blk_cell BK202.out 0).trans rfl) (fun hHeld => ?_); refine with_tabW spec_IsSemigroup.tab1 spec_IsSemigroup.bits1 (fun HT_ HW_ => ?_); generalize w26.drew = w27 at BK202 HB hHeld ⊢; refine zP 0 (some 3) ?_ bA11 rfl rfl HT_ ?_ ?_ ?_ ?_; rotate_left
   ·intro w'; go_simp; (with_reducible rfl)
   rotate_left
   ·simp only [Act.put, qA, qB, qC, i64_w]; rfl
   refine zZ 1 (some 4) ?_ bA19 rfl rfl HT_ HW_ ?_ hHeld ?_ ?_ ?_; rotate_left
   ·intro w' s0; go_simp; (with_reducible rfl)
   rotate_left
   ·simp only [Act.put, qA, qB, qC, i64_w]; rfl
   refine one_ (i := 2) (N := some 5) bA28 rfl rfl (one_of HT_.out (by kernel_rfl)) (by decide) (fun K hK => ?_); refine goes_ Try.func57 (by kernel_rfl) rfl #[.slice A0_0 l0_0.length c0_0] (by rfl) rfl rfl (by (try simp only [za, zc, zn]); first | done | rfl) ?_; (with_reducible refine (spec_l3Gens.calls k _ _ l0_0 true _ ?side1 ?side2 A2.out).mono ?_); (case side1 => exact zC (Kd.C_below HR0_0.out HB.out)); (case side2 => exact HC0_0.out); rintro e w' ⟨rfl, ⟨nd, rfl⟩⟩; refine ⟨_, rfl, ?_⟩; refine hK.out _ _ ((blk_cell BK202.out 0).trans rfl) (fun hHeld => ?_); clear hK K; refine norm_ (a' := ?_) ?_ ?_; rotate_left
   ·show Act.put _ (some 5) _ = _; simp only [Act.put, qA, qB, qC, i64_w]; rfl
   refine zP 3 (some 6) ?_ bA40 rfl rfl HT_ ?_ ?_ ?_ ?_; rotate_left
   ·intro w'; go_simp; (with_reducible rfl)
   rotate_left
   ·simp only [Act.put, qA, qB, qC, i64_w]; rfl
   refine zP 4 (some 7) ?_ bA50 rfl rfl HT_ ?_ ?_ ?_ ?_; rotate_left
   ·intro w'; go_simp; (with_reducible rfl)
   rotate_left
   ·simp only [Act.put, qA, qB, qC, i64_w]; rfl
   refine zZ 5 (some 8) ?_ bA57 rfl rfl HT_ HW_ ?_ hHeld ?_ ?_ ?_; rotate_left
   ·intro w' s0; go_simp; (with_reducible rfl)
   rotate_left
   ·simp only [Act.put, qA, qB, qC, i64_w]; rfl
   refine zP 6 (some 9) ?_ bA65 rfl rfl HT_ ?_ ?_ ?_ ?_; rotate_left
   ·intro w'; go_simp; (with_reducible rfl)
   rotate_left
   ·simp only [Act.put, qA, qB, qC, i64_w]; rfl
   refine zP 7 (some 10) ?_ bA76 rfl rfl HT_ ?_ ?_ ?_ ?_; rotate_left
   ·intro w'; go_simp; (with_reducible rfl)
   rotate_left
   ·simp only [Act.put, qA, qB, qC, i64_w]; rfl
   refine zP 8 (some 11) ?_ bA81 rfl rfl HT_ ?_ ?_ ?_ ?_; rotate_left
   ·intro w'; go_simp; (with_reducible rfl)
   rotate_left
   ·simp only [Act.put, qA, qB, qC, i64_w]; rfl
   refine zP 9 (some 12) ?_ bA92 rfl rfl HT_ ?_ ?_ ?_ ?_; rotate_left
   ·intro w'; go_simp; (with_reducible rfl)
   rotate_left
   ·simp only [Act.put, qA, qB, qC, i64_w]; rfl
   refine zU 10 (some 13) bA99 rfl rfl HT_ ?_ ?_ ?_; rotate_left
   ·simp only [Act.put, qA, qB, qC, i64_w]; rfl
   refine zU 11 (some 14) bA105 rfl rfl HT_ ?_ ?_ ?_; rotate_left
   ·simp only [Act.put, qA, qB, qC, i64_w]; rfl
   refine zU 12 (some 15) bA111 rfl rfl HT_ ?_ ?_ ?_; rotate_left
   ·simp only [Act.put, qA, qB, qC, i64_w]; rfl
   refine zP 13 (some 16) ?_ bA116 rfl rfl HT_ ?_ ?_ ?_ ?_; rotate_left
   ·intro w'; go_simp; (with_reducible rfl)
   rotate_left
   ·simp only [Act.put, qA, qB, qC, i64_w]; rfl
   refine zP 14 (some 17) ?_ bA120 rfl rfl HT_ ?_ ?_ ?_ ?_; rotate_left
   ·intro w'; go_simp; (with_reducible rfl)
   rotate_left
   ·simp only [Act.put, qA, qB, qC, i64_w]; rfl
   refine zU 15 (some 18) bA124 rfl rfl HT_ ?_ ?_ ?_; rotate_left
   ·simp only [Act.put, qA, qB, qC, i64_w]; rfl
   refine zU 16 (some 19) bA128 rfl rfl HT_ ?_ ?_ ?_; rotate_left
   ·simp only [Act.put, qA, qB, qC, i64_w]; rfl
   refine zU 17 (some 20) bA132 rfl rfl HT_ ?_ ?_ ?_; rotate_left
   ·simp only [Act.put, qA, qB, qC, i64_w]; rfl
   refine zU 18 (some 21) bA136 rfl rfl HT_ ?_ ?_ ?_; rotate_left
   ·simp only [Act.put, qA, qB, qC, i64_w]; rfl
   refine zP 19 (some 22) ?_ bA140 rfl rfl HT_ ?_ ?_ ?_ ?_; rotate_left
   ·intro w'; go_simp; (with_reducible rfl)
   rotate_left
   ·simp only [Act.put, qA, qB, qC, i64_w]; rfl
   refine zP 20 (some 23) ?_ bA144 rfl rfl HT_ ?_ ?_ ?_ ?_; rotate_left
   ·intro w'; go_simp; (with_reducible rfl)
   rotate_left
   ·simp only [Act.put, qA, qB, qC, i64_w]; rfl
   refine zU 21 (some 24) bA149 rfl rfl HT_ ?_ ?_ ?_; rotate_left
   ·simp only [Act.put, qA, qB, qC, i64_w]; rfl
   refine zU 22 (some 25) bA153 rfl rfl HT_ ?_ ?_ ?_; rotate_left
   ·simp only [Act.put, qA, qB, qC, i64_w]; rfl
   refine zU 23 (some 26) bA157 rfl rfl HT_ ?_ ?_ ?_; rotate_left
   ·simp only [Act.put, qA, qB, qC, i64_w]; rfl
   refine zU 24 (some 27) bA159 rfl rfl HT_ ?_ ?_ ?_; rotate_left
   ·simp only [Act.put, qA, qB, qC, i64_w]; rfl
   refine zU 25 (some 28) bA161 rfl rfl HT_ ?_ ?_ ?_; rotate_left
   ·simp only [Act.put, qA, qB, qC, i64_w]; rfl
   refine zU 26 (some 29) bA163 rfl rfl HT_ ?_ ?_ ?_; rotate_left
   ·simp only [Act.put, qA, qB, qC, i64_w]; rfl
   refine zP 27 (some 30) ?_ bA165 rfl rfl HT_ ?_ ?_ ?_ ?_; rotate_left
   ·intro w'; go_simp; (with_reducible rfl)
   rotate_left
   ·simp only [Act.put, qA, qB, qC, i64_w]; rfl
   refine zP 28 (some 31) ?_ bA167 rfl rfl HT_ ?_ ?_ ?_ ?_; rotate_left
   ·intro w'; go_simp; (with_reducible rfl)
   rotate_left
   ·simp only [Act.put, qA, qB, qC, i64_w]; rfl
   refine zU 29 (some 32) bA169 rfl rfl HT_ ?_ ?_ ?_; rotate_left
   ·simp only [Act.put, qA, qB, qC, i64_w]; rfl
   refine zU 30 (some 33) bA171 rfl rfl HT_ ?_ ?_ ?_; rotate_left
   ·simp only [Act.put, qA, qB, qC, i64_w]; rfl
   refine zU 31 (some 34) bA173 rfl rfl HT_ ?_ ?_ ?_; rotate_left
   ·simp only [Act.put, qA, qB, qC, i64_w]; rfl
   refine zP 32 (some 35) ?_ bA175 rfl rfl HT_ ?_ ?_ ?_ ?_; rotate_left
   ·intro w'; go_simp; (with_reducible rfl)
   rotate_left
   ·simp only [Act.put, qA, qB, qC, i64_w]; rfl
   refine zP 33 (some 2) ?_ bA178 rfl rfl HT_ ?_ ?_ ?_ ?_; rotate_left
   ·intro w'; go_simp; (with_reducible rfl)
   rotate_left
   ·simp only [Act.put, qA, qB, qC, i64_w]; rfl
   refine done_ (done_of HT_.out (by kernel_rfl)) ?_
   try go_wp2
   go_ret
   exact ⟨by first | rfl | (simp [*, errW_none, errW_some] <;> rfl), zB HB.out⟩
 ·replace c3 := Bool.eq_false_iff.mpr c3; subst c3; rw [zF] at H; obtain rfl := Option.some.inj H; go_enter Try.func30, Try.ntmps30
  try go_wp2_with (first | ((with_reducible refine gate_dst (N := 1) rfl ?_); refine box_event ?hg (N := 1) ?hd (cs := #[.slice A0_0 l0_0.length c0_0]) (t := 26) ?hr ?_; (case hd => rfl); (case hg => rfl); (case hr => first | (go_simp; done) | (go_simp; rfl)); intro gb202 hg w28 hbox hb; have BK202 := Aside0.mk (hbox); have GW202 := Aside0.mk ((by rw [hg]; exact (zS HB.out) : w.heap.size ≤ gb202)); have GE202 := Aside0.mk ((by rw [hg]; exact (zS HB.out) : w.heap.size ≤ gb202)); replace HB := Aside0.mk (below_step (zB HB.out) hb); have := Ge.mk GE202.out; clear hb hbox hg))
  replace BK202 := Aside0.mk (blk_drew BK202.out); replace HB := Aside0.mk (below_drew1 HB.out); refine start_ (n := 34) (S := fun w' => w'.cell? ⟨gb202, 0, none⟩ = some (.slice A0_0 l0_0.length c0_0)) (ds := []) bA1 (by kernel_rfl) rfl rfl ((blk_cell BK202.out 0).trans rfl) (fun hHeld => ?_); refine with_tabW spec_IsSemigroup.tab1 spec_IsSemigroup.bits1 (fun HT_ HW_ => ?_); generalize w28.drew = w29 at BK202 HB hHeld ⊢; refine zP 0 (some 3) ?_ bA11 rfl rfl HT_ ?_ ?_ ?_ ?_; rotate_left
  ·intro w'; go_simp; (with_reducible rfl)
  rotate_left
  ·simp only [Act.put, qA, qB, qC, i64_w]; rfl
  refine zZ 1 (some 4) ?_ bA19 rfl rfl HT_ HW_ ?_ hHeld ?_ ?_ ?_; rotate_left
  ·intro w' s0; go_simp; (with_reducible rfl)
  rotate_left
  ·simp only [Act.put, qA, qB, qC, i64_w]; rfl
  refine one_ (i := 2) (N := some 5) bA28 rfl rfl (one_of HT_.out (by kernel_rfl)) (by decide) (fun K hK => ?_); refine goes_ Try.func57 (by kernel_rfl) rfl #[.slice A0_0 l0_0.length c0_0] (by rfl) rfl rfl (by (try simp only [za, zc, zn]); first | done | rfl) ?_; (with_reducible refine (spec_l3Gens.calls k _ _ l0_0 false _ ?side1 ?side2 A2.out).mono ?_); (case side1 => exact zC (Kd.C_below HR0_0.out HB.out)); (case side2 => exact HC0_0.out); rintro e w' ⟨rfl, ⟨nd, rfl⟩⟩; refine ⟨_, rfl, ?_⟩; refine hK.out _ _ ((blk_cell BK202.out 0).trans rfl) (fun hHeld => ?_); clear hK K; refine norm_ (a' := ?_) ?_ ?_; rotate_left
  ·show Act.put _ (some 5) _ = _; simp only [Act.put, qA, qB, qC, i64_w]; rfl
  refine zP 3 (some 6) ?_ bA40 rfl rfl HT_ ?_ ?_ ?_ ?_; rotate_left
  ·intro w'; go_simp; (with_reducible rfl)
  rotate_left
  ·simp only [Act.put, qA, qB, qC, i64_w]; rfl
  refine zU 4 (some 7) bA50 rfl rfl HT_ ?_ ?_ ?_; rotate_left
  ·simp only [Act.put, qA, qB, qC, i64_w]; rfl
  refine zU 5 (some 8) bA57 rfl rfl HT_ ?_ ?_ ?_; rotate_left
  ·simp only [Act.put, qA, qB, qC, i64_w]; rfl
  refine zU 6 (some 9) bA65 rfl rfl HT_ ?_ ?_ ?_; rotate_left
  ·simp only [Act.put, qA, qB, qC, i64_w]; rfl
  refine zU 7 (some 10) bA76 rfl rfl HT_ ?_ ?_ ?_; rotate_left
  ·simp only [Act.put, qA, qB, qC, i64_w]; rfl
  refine zP 8 (some 11) ?_ bA81 rfl rfl HT_ ?_ ?_ ?_ ?_; rotate_left
  ·intro w'; go_simp; (with_reducible rfl)
  rotate_left
  ·simp only [Act.put, qA, qB, qC, i64_w]; rfl
  refine zP 9 (some 12) ?_ bA92 rfl rfl HT_ ?_ ?_ ?_ ?_; rotate_left
  ·intro w'; go_simp; (with_reducible rfl)
  rotate_left
  ·simp only [Act.put, qA, qB, qC, i64_w]; rfl
  refine zU 10 (some 13) bA99 rfl rfl HT_ ?_ ?_ ?_; rotate_left
  ·simp only [Act.put, qA, qB, qC, i64_w]; rfl
  refine zU 11 (some 14) bA105 rfl rfl HT_ ?_ ?_ ?_; rotate_left
  ·simp only [Act.put, qA, qB, qC, i64_w]; rfl
  refine zU 12 (some 15) bA111 rfl rfl HT_ ?_ ?_ ?_; rotate_left
  ·simp only [Act.put, qA, qB, qC, i64_w]; rfl
  refine zP 13 (some 16) ?_ bA116 rfl rfl HT_ ?_ ?_ ?_ ?_; rotate_left
  ·intro w'; go_simp; (with_reducible rfl)
  rotate_left
  ·simp only [Act.put, qA, qB, qC, i64_w]; rfl
  refine zP 14 (some 17) ?_ bA120 rfl rfl HT_ ?_ ?_ ?_ ?_; rotate_left
  ·intro w'; go_simp; (with_reducible rfl)
  rotate_left
  ·simp only [Act.put, qA, qB, qC, i64_w]; rfl
  refine zU 15 (some 18) bA124 rfl rfl HT_ ?_ ?_ ?_; rotate_left
  ·simp only [Act.put, qA, qB, qC, i64_w]; rfl
  refine zU 16 (some 19) bA128 rfl rfl HT_ ?_ ?_ ?_; rotate_left
  ·simp only [Act.put, qA, qB, qC, i64_w]; rfl
  refine zU 17 (some 20) bA132 rfl rfl HT_ ?_ ?_ ?_; rotate_left
  ·simp only [Act.put, qA, qB, qC, i64_w]; rfl
  refine zU 18 (some 21) bA136 rfl rfl HT_ ?_ ?_ ?_; rotate_left
  ·simp only [Act.put, qA, qB, qC, i64_w]; rfl
  refine zP 19 (some 22) ?_ bA140 rfl rfl HT_ ?_ ?_ ?_ ?_; rotate_left
  ·intro w'; go_simp; (with_reducible rfl)
  rotate_left
  ·simp only [Act.put, qA, qB, qC, i64_w]; rfl
  refine zP 20 (some 23) ?_ bA144 rfl rfl HT_ ?_ ?_ ?_ ?_; rotate_left
  ·intro w'; go_simp; (with_reducible rfl)
  rotate_left
  ·simp only [Act.put, qA, qB, qC, i64_w]; rfl
  refine zU 21 (some 24) bA149 rfl rfl HT_ ?_ ?_ ?_; rotate_left
  ·simp only [Act.put, qA, qB, qC, i64_w]; rfl
  refine zU 22 (some 25) bA153 rfl rfl HT_ ?_ ?_ ?_; rotate_left
  ·simp only [Act.put, qA, qB, qC, i64_w]; rfl
  refine zU 23 (some 26) bA157 rfl rfl HT_ ?_ ?_ ?_; rotate_left
  ·simp only [Act.put, qA, qB, qC, i64_w]; rfl
  refine zU 24 (some 27) bA159 rfl rfl HT_ ?_ ?_ ?_; rotate_left
  ·simp only [Act.put, qA, qB, qC, i64_w]; rfl
  refine zU 25 (some 28) bA161 rfl rfl HT_ ?_ ?_ ?_; rotate_left
  ·simp only [Act.put, qA, qB, qC, i64_w]; rfl
  refine zU 26 (some 29) bA163 rfl rfl HT_ ?_ ?_ ?_; rotate_left
  ·simp only [Act.put, qA, qB, qC, i64_w]; rfl
  refine zP 27 (some 30) ?_ bA165 rfl rfl HT_ ?_ ?_ ?_ ?_; rotate_left
  ·intro w'; go_simp; (with_reducible rfl)
  rotate_left
  ·simp only [Act.put, qA, qB, qC, i64_w]; rfl
  refine zP 28 (some 31) ?_ bA167 rfl rfl HT_ ?_ ?_ ?_ ?_; rotate_left
  ·intro w'; go_simp; (with_reducible rfl)
  rotate_left
  ·simp only [Act.put, qA, qB, qC, i64_w]; rfl
  refine zU 29 (some 32) bA169 rfl rfl HT_ ?_ ?_ ?_; rotate_left
  ·simp only [Act.put, qA, qB, qC, i64_w]; rfl
  refine zU 30 (some 33) bA171 rfl rfl HT_ ?_ ?_ ?_; rotate_left
  ·simp only [Act.put, qA, qB, qC, i64_w]; rfl
  refine zU 31 (some 34) bA173 rfl rfl HT_ ?_ ?_ ?_; rotate_left
  ·simp only [Act.put, qA, qB, qC, i64_w]; rfl
  refine zP 32 (some 35) ?_ bA175 rfl rfl HT_ ?_ ?_ ?_ ?_; rotate_left
  ·intro w'; go_simp; (with_reducible rfl)
  rotate_left
  ·simp only [Act.put, qA, qB, qC, i64_w]; rfl
  refine zP 33 (some 2) ?_ bA178 rfl rfl HT_ ?_ ?_ ?_ ?_; rotate_left
  ·intro w'; go_simp; (with_reducible rfl)
  rotate_left
  ·simp only [Act.put, qA, qB, qC, i64_w]; rfl
  refine done_ (done_of HT_.out (by kernel_rfl)) ?_
  try go_wp2
  go_ret
  exact ⟨by first | rfl | (simp [*, errW_none, errW_some] <;> rfl), zB HB.out⟩

end Go.Proofs.Ythednemidaegkaa.PFnApery
