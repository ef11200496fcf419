-- Written by a program of this session (a turned copy of the kit's print; see NOTES.md).
import Derived.Test.YtbagfnppeidonaaPFnGapsx0
import Derived.Test.YtbagfnppeidonaaPFnGapsx9
import Derived.Test.YtbagfnppeidonaaPFnGapsx10
import Derived.Test.YtbagfnppeidonaaPFnGapsx12
import Derived.Test.YtbagfnppeidonaaPFnGapsx13
namespace Go.Proofs.Ytbagfnppeidonaa.PFnGaps
open Go.RowKit Go.Proofs.YtbagfnppeidonaaW.PrintWords Go.Proofs.YtbagfnppeidonaaW.PrintLast Go.Proofs.YtbagfnppeidonaaW.PrintMore
attribute [local go_sem] max2_int min2_int max_two min_two max_three min_three max_four min_four   -- for this text's walks alone
set_option linter.unusedVariables false
set_option linter.unusedSimpArgs false

/-! ### impl_Contains: function 55 -/
def impl_Contains.f (k : Nat) (l0_0 : List Int) (a1 : Int) : Option (Bool) := if a1 < 0 then (some false) else ((impl_IsSemigroup.f k l0_0).bind fun t509 => (if t509 = true then (if a1 ≥ 200 then (some true) else (if 0 < (l0_0.length : Int) then ((impl_leasts.f k l0_0 (rd l0_0 0)).bind fun t511 => (if (rd l0_0 0) = 0 then (none) else (if 0 ≤ (Int.tmod a1 (rd l0_0 0)) then (if (Int.tmod a1 (rd l0_0 0)) < (t511.length : Int) then (some (decide ((rd t511 (Int.tmod a1 (rd l0_0 0))) ≤ a1))) else (none)) else (none)))) else (none))) else (some false)))
def impl_Contains.T3 : Bool × List (List Nat × List Nat) := (true, [([], []), ([0], [0]), ([1], [1]), ([2], [2]), ([3, 2], [2, 3]), ([2], [2]), ([5, 2], [2, 5]), ([6, 2], [2, 6]), ([7, 2], [2, 7]), ([4, 8, 2, 2], [2, 4, 8]), ([2], [2]), ([2], [2]), ([11, 2], [2, 11]), ([12, 2], [2, 12]), ([13, 2], [2, 13]), ([10, 14, 2], [2, 10, 14]), ([9, 15, 2], [2, 9, 15]), ([16, 2], [2, 16]), ([2], [2]), ([17, 18, 2], [2, 17, 18]), ([2, 19], [2, 19]), ([20, 9, 0, 1, 2, 3, 4, 5, 6, 7, 8, 9, 10, 11, 12, 13, 14, 15, 16, 17, 18, 19, 20], [20])])
def impl_Contains.B3 : List Nat := [0, 1, 3, 7, 15, 7, 39, 103, 231, 511, 7, 7, 2055, 6151, 14343, 31751, 65535, 131071, 7, 524287, 1048575, 2097151]
theorem impl_Contains.tab3 : rtab .any (opsOf Try.f55 3) = impl_Contains.T3 := by kernel_rfl
theorem impl_Contains.bits3 : waitsOk impl_Contains.T3.2 impl_Contains.B3 = true := by kernel_rfl
set_option maxHeartbeats 8000000 in
set_option maxRecDepth 100000 in
theorem impl_Contains.calls (k : Nat) (A0_0 : Option Addr) (c0_0 : Nat) (l0_0 : List Int) (a1 : Int) (r : Bool) (w : World) (hr0_0 : Kd.C (Kd.int .i64) w A0_0 l0_0.length l0_0) (hc0_0 : l0_0.length ≤ c0_0) (h : impl_Contains.f k l0_0 a1 = some r) :
  Calls Try.prog 55 #[.agg #[.slice A0_0 l0_0.length c0_0], .int .i64 a1] w fun e w' => e = .returned (.bool r) ∧ Below w.heap.size w w' := by
 have hu40 := Try.underlying40; have HR0_0 := Aside0.mk hr0_0; have HC0_0 := Aside0.mk hc0_0; clear hr0_0 hc0_0; have HB := Aside0.mk (Below.refl w.heap.size w); have H : (if a1 < 0 then (some false) else ((impl_IsSemigroup.f k l0_0).bind fun t509 => (if t509 = true then (if a1 ≥ 200 then (some true) else (if 0 < (l0_0.length : Int) then ((impl_leasts.f k l0_0 (rd l0_0 0)).bind fun t511 => (if (rd l0_0 0) = 0 then (none) else (if 0 ≤ (Int.tmod a1 (rd l0_0 0)) then (if (Int.tmod a1 (rd l0_0 0)) < (t511.length : Int) then (some (decide ((rd t511 (Int.tmod a1 (rd l0_0 0))) ≤ a1))) else (none)) else (none)))) else (none))) else (some false)))) = some r := h; clear h
 by_cases c3 : a1 < 0
 ·rw [if_pos c3] at H; have c3b0 : decide (a1 < 0) = true := decide_eq_true c3; clear c3; obtain rfl := Option.some.inj H; go_enter Try.func55, Try.ntmps55; go_wp2_with (first | ((with_reducible refine gate_dst (N := 2) rfl ?_); refine box_event ?hg (N := 2) ?hd (cs := #[.slice A0_0 l0_0.length c0_0]) (t := 40) ?hr ?_; (case hd => rfl); (case hg => rfl); (case hr => first | (go_simp; done) | (go_simp; rfl)); intro gb508 hg w4 hbox hb; have n0_ := Aside0.mk (below_step (zB HB.out) hb); have n1_ := Aside0.mk (hbox); have n2_ := Aside0.mk ((by rw [hg]; exact (zS HB.out) : w.heap.size ≤ gb508)); have n3_ := Aside0.mk ((by rw [hg]; exact (zS HB.out) : w.heap.size ≤ gb508)); clear HB; have HB := n0_; have BK508 := n1_; have GW508 := n2_; have GE508 := n3_; clear n0_ n1_ n2_ n3_; clear hb hbox hg)); go_ret
  exact ⟨by first | rfl | (simp [errW_none, errW_some] <;> rfl) | (simp [*, errW_none, errW_some] <;> rfl), zB HB.out⟩
 ·rw [if_neg c3] at H; have c3b0 : decide (a1 < 0) = false := decide_eq_false c3; clear c3; obtain ⟨t509, A5, H⟩ := zb H; have HU6 := Aside0.mk H; clear H; go_enter Try.func55, Try.ntmps55; go_upto_if 11 with (first | ((with_reducible refine gate_dst (N := 2) rfl ?_); refine box_event ?hg (N := 2) ?hd (cs := #[.slice A0_0 l0_0.length c0_0]) (t := 40) ?hr ?_; (case hd => rfl); (case hg => rfl); (case hr => first | (go_simp; done) | (go_simp; rfl)); intro gb508 hg w7 hbox hb; have n0_ := Aside0.mk (below_step (zB HB.out) hb); have n1_ := Aside0.mk (hbox); have n2_ := Aside0.mk ((by rw [hg]; exact (zS HB.out) : w.heap.size ≤ gb508)); have n3_ := Aside0.mk ((by rw [hg]; exact (zS HB.out) : w.heap.size ≤ gb508)); clear HB; have HB := n0_; have BK508 := n1_; have GW508 := n2_; have GE508 := n3_; clear n0_ n1_ n2_ n3_; clear hb hbox hg; have hcz8_0 : w7.cell? ⟨gb508, 0, none⟩ = some (.slice A0_0 l0_0.length c0_0) := (blk_cell BK508.out 0).trans rfl; have hfz8_0 := blk_frozen BK508.out 0) | (go_at_call 79; (with_reducible refine (impl_IsSemigroup.calls k _ _ l0_0 t509 _ ?side1 ?side2 A5.out).mono ?_); (case side1 => exact zC (Kd.C_below HR0_0.out HB.out)); (case side2 => exact HC0_0.out); rintro e w9 ⟨rfl, hb⟩; have n0_ := Aside0.mk (blk_below (g := gb508) (o := .cells #[.slice A0_0 l0_0.length c0_0] 40 (0, 0)) (zk BK508.out) hb); have n1_ := Aside0.mk (below_step (zB HB.out) hb); clear BK508; clear HB; have BK508 := n0_; have HB := n1_; clear n0_ n1_; (try clear hb); (try clear hb2); (try clear hk); (try clear hi)))
  (try simp only [Act.put, List.setIfInBounds_toArray, List.set_cons_zero, List.set_cons_succ]); have H := HU6.out; clear HU6
  by_cases c10 : t509 = true
  ·subst c10; rw [zT] at H
   by_cases c11 : a1 ≥ 200
   ·rw [if_pos c11] at H; have c11b0 : decide (200 ≤ a1) = true := decide_eq_true c11; clear c11; (first | rw [c11b0] | rw [c11b1] | (simp only [i64_w, i32_w]; rw [c11b0]) | skip); obtain rfl := Option.some.inj H
    try go_wp2
    have n0_ := Aside0.mk (blk_drew BK508.out); have n1_ := Aside0.mk (below_drew1 HB.out); clear BK508; clear HB; have BK508 := n0_; have HB := n1_; clear n0_ n1_; refine start_ (n := 22) (S := fun w' => True) (ds := []) bA3 (by kernel_rfl) rfl rfl trivial (fun hHeld => ?_); refine with_tabW impl_Contains.tab3 impl_Contains.bits3 (fun HT_ HW_ => ?_); generalize w9.drew = w12 at BK508 HB hHeld ⊢; refine zp 0 (some 12) ?_ bA16 rfl rfl HT_ (by kernel_rfl) (fun _ _ _ h => h) (by rfl) ?_ ?_ ?_ ?_; rotate_left
    ·intro w'; go_simp; (with_reducible rfl)
    rotate_left
    ·simp only [Act.put, qA, qB, qC, i64_w, i32_w]; rfl
    refine zp 1 (some 13) ?_ bA25 rfl rfl HT_ (by kernel_rfl) (fun _ _ _ h => h) (by rfl) ?_ ?_ ?_ ?_; rotate_left
    ·intro w'; go_simp; (with_reducible rfl)
    rotate_left
    ·simp only [Act.put, qA, qB, qC, i64_w, i32_w]; rfl
    refine zp 2 (some 14) ?_ bA33 rfl rfl HT_ (by kernel_rfl) (fun _ _ _ h => h) (by rfl) ?_ ?_ ?_ ?_; rotate_left
    ·intro w'; go_simp; (with_reducible rfl)
    rotate_left
    ·simp only [Act.put, qA, qB, qC, i64_w, i32_w]; rfl
    refine zu 3 (some 15) bA46 rfl rfl HT_ (by kernel_rfl) (fun _ _ _ h => h) (by rfl) ?_ ?_ ?_; rotate_left
    ·simp only [Act.put, qA, qB, qC, i64_w, i32_w]; rfl
    refine zu 4 (some 16) #[true, true, true, true, true, false, false, false, false, false, false, false, false, false, false, false, false, false, false, false, false, false] rfl rfl HT_ (by kernel_rfl) (fun _ _ _ h => h) (by rfl) ?_ ?_ ?_; rotate_left
    ·simp only [Act.put, qA, qB, qC, i64_w, i32_w]; rfl
    refine zu 5 (some 17) #[true, true, true, true, true, true, false, false, false, false, false, false, false, false, false, false, false, false, false, false, false, false] rfl rfl HT_ (by kernel_rfl) (fun _ _ _ h => h) (by rfl) ?_ ?_ ?_; rotate_left
    ·simp only [Act.put, qA, qB, qC, i64_w, i32_w]; rfl
    refine zu 6 (some 18) #[true, true, true, true, true, true, true, false, false, false, false, false, false, false, false, false, false, false, false, false, false, false] rfl rfl HT_ (by kernel_rfl) (fun _ _ _ h => h) (by rfl) ?_ ?_ ?_; rotate_left
    ·simp only [Act.put, qA, qB, qC, i64_w, i32_w]; rfl
    refine zu 7 (some 19) #[true, true, true, true, true, true, true, true, false, false, false, false, false, false, false, false, false, false, false, false, false, false] rfl rfl HT_ (by kernel_rfl) (fun _ _ _ h => h) (by rfl) ?_ ?_ ?_; rotate_left
    ·simp only [Act.put, qA, qB, qC, i64_w, i32_w]; rfl
    refine zu 8 (some 20) #[true, true, true, true, true, true, true, true, true, false, false, false, false, false, false, false, false, false, false, false, false, false] rfl rfl HT_ (by kernel_rfl) (fun _ _ _ h => h) (by rfl) ?_ ?_ ?_; rotate_left
    ·simp only [Act.put, qA, qB, qC, i64_w, i32_w]; rfl
    refine zu 9 (some 21) #[true, true, true, true, true, true, true, true, true, true, false, false, false, false, false, false, false, false, false, false, false, false] rfl rfl HT_ (by kernel_rfl) (fun _ _ _ h => h) (by rfl) ?_ ?_ ?_; rotate_left
    ·simp only [Act.put, qA, qB, qC, i64_w, i32_w]; rfl
    refine zu 10 (some 22) #[true, true, true, true, true, true, true, true, true, true, true, false, false, false, false, false, false, false, false, false, false, false] rfl rfl HT_ (by kernel_rfl) (fun _ _ _ h => h) (by rfl) ?_ ?_ ?_; rotate_left
    ·simp only [Act.put, qA, qB, qC, i64_w, i32_w]; rfl
    refine zu 11 (some 23) #[true, true, true, true, true, true, true, true, true, true, true, true, false, false, false, false, false, false, false, false, false, false] rfl rfl HT_ (by kernel_rfl) (fun _ _ _ h => h) (by rfl) ?_ ?_ ?_; rotate_left
    ·simp only [Act.put, qA, qB, qC, i64_w, i32_w]; rfl
    refine zu 12 (some 24) #[true, true, true, true, true, true, true, true, true, true, true, true, true, false, false, false, false, false, false, false, false, false] rfl rfl HT_ (by kernel_rfl) (fun _ _ _ h => h) (by rfl) ?_ ?_ ?_; rotate_left
    ·simp only [Act.put, qA, qB, qC, i64_w, i32_w]; rfl
    refine zu 13 (some 25) #[true, true, true, true, true, true, true, true, true, true, true, true, true, true, false, false, false, false, false, false, false, false] rfl rfl HT_ (by kernel_rfl) (fun _ _ _ h => h) (by rfl) ?_ ?_ ?_; rotate_left
    ·simp only [Act.put, qA, qB, qC, i64_w, i32_w]; rfl
    refine zu 14 (some 26) #[true, true, true, true, true, true, true, true, true, true, true, true, true, true, true, false, false, false, false, false, false, false] rfl rfl HT_ (by kernel_rfl) (fun _ _ _ h => h) (by rfl) ?_ ?_ ?_; rotate_left
    ·simp only [Act.put, qA, qB, qC, i64_w, i32_w]; rfl
    refine zu 15 (some 27) #[true, true, true, true, true, true, true, true, true, true, true, true, true, true, true, true, false, false, false, false, false, false] rfl rfl HT_ (by kernel_rfl) (fun _ _ _ h => h) (by rfl) ?_ ?_ ?_; rotate_left
    ·simp only [Act.put, qA, qB, qC, i64_w, i32_w]; rfl
    refine zu 16 (some 28) #[true, true, true, true, true, true, true, true, true, true, true, true, true, true, true, true, true, false, false, false, false, false] rfl rfl HT_ (by kernel_rfl) (fun _ _ _ h => h) (by rfl) ?_ ?_ ?_; rotate_left
    ·simp only [Act.put, qA, qB, qC, i64_w, i32_w]; rfl
    refine zu 17 (some 29) #[true, true, true, true, true, true, true, true, true, true, true, true, true, true, true, true, true, true, false, false, false, false] rfl rfl HT_ (by kernel_rfl) (fun _ _ _ h => h) (by rfl) ?_ ?_ ?_; rotate_left
    ·simp only [Act.put, qA, qB, qC, i64_w, i32_w]; rfl
    refine zu 18 (some 30) bA139 rfl rfl HT_ (by kernel_rfl) (fun _ _ _ h => h) (by rfl) ?_ ?_ ?_; rotate_left
    ·simp only [Act.put, qA, qB, qC, i64_w, i32_w]; rfl
    refine zu 19 (some 31) bA143 rfl rfl HT_ (by kernel_rfl) (fun _ _ _ h => h) (by rfl) ?_ ?_ ?_; rotate_left
    ·simp only [Act.put, qA, qB, qC, i64_w, i32_w]; rfl
    refine zp 20 (some 32) ?_ bA148 rfl rfl HT_ (by kernel_rfl) (fun _ _ _ h => h) (by rfl) ?_ ?_ ?_ ?_; rotate_left
    ·intro w'; go_simp; (with_reducible rfl)
    rotate_left
    ·simp only [Act.put, qA, qB, qC, i64_w, i32_w]; rfl
    refine zp 21 (some 4) ?_ bA200 rfl rfl HT_ (by kernel_rfl) (fun _ _ _ h => h) (by rfl) ?_ ?_ ?_ ?_; rotate_left
    ·intro w'; go_simp; (with_reducible rfl)
    rotate_left
    ·simp only [Act.put, qA, qB, qC, i64_w, i32_w]; rfl
    refine done_ (done_of HT_.out (by kernel_rfl)) ?_
    try go_wp2
    go_ret
    exact ⟨by first | rfl | (simp [errW_none, errW_some] <;> rfl) | (simp [*, errW_none, errW_some] <;> rfl), zB HB.out⟩
   ·rw [if_neg c11] at H; have c11b0 : decide (200 ≤ a1) = false := decide_eq_false c11; clear c11; (first | rw [c11b0] | rw [c11b1] | (simp only [i64_w, i32_w]; rw [c11b0]) | skip); obtain ⟨c13, H⟩ := zi H; have c13b0 : decide (0 < (l0_0.length : Int)) = true := decide_eq_true c13; have c13b1 : decide (0 < l0_0.length) = true := decide_eq_true (by omega); clear c13; obtain ⟨t511, A14, H⟩ := zb H
    by_cases c15 : (rd l0_0 0) = 0
    ·rw [if_pos c15] at H; exact absurd H (by simp)
    ·rw [if_neg c15] at H; have c15b0 : ((rd l0_0 0) == 0) = false := beq_eq_false_iff_ne.mpr c15; have c15b1 : ((rd l0_0 0) != 0) = true := bne_iff_ne.mpr c15; obtain ⟨ji16, hji16⟩ : ∃ j_ : Int, (Int.tmod a1 (rd l0_0 0)) = j_ := ⟨_, rfl⟩; replace H : (if 0 ≤ (ji16) then (if (ji16) < (t511.length : Int) then (some (decide ((rd t511 (ji16)) ≤ a1))) else (none)) else (none)) = some r := by first | (rw [hji16] at H; exact H) | (simp only [hji16] at H ⊢; exact H)
     (try rw [hji16] at A14); obtain ⟨c17, H⟩ := zi H; have c17b0 : decide (0 ≤ (ji16)) = true := decide_eq_true c17; clear c17; obtain ⟨c18, H⟩ := zi H; have c18b0 : decide ((ji16) < (t511.length : Int)) = true := decide_eq_true c18; clear c18; obtain rfl := Option.some.inj H
     try go_wp2
     have n0_ := Aside0.mk (blk_drew BK508.out); have n1_ := Aside0.mk (below_drew1 HB.out); clear BK508; clear HB; have BK508 := n0_; have HB := n1_; clear n0_ n1_; have p510 : 0 ≤ (0 : Int) := (by omega); have q510 : 0 < (l0_0.length : Int) := of_decide_eq_true (by assumption); obtain ⟨ad510, e510, hx510_0⟩ := Kd.at_int HR0_0.out 0 p510 q510; have hw510_0 := hx510_0; (try rw [show ((0 : Int)).toNat = 0 from rfl] at hw510_0); (try rw [show 0 * 1 = 0 from rfl] at hw510_0); (try rw [Addr.add_zero'] at hw510_0)
     cases e510; have qi510 : (0 < l0_0.length) = True := eq_true (by omega); (try rw [show ((0 : Int)).toNat = 0 from rfl] at hx510_0); (try rw [Addr.add_zero'] at hx510_0); (try replace hx510_0 := (HB.out.cell (World.block_lt_of_cell? w _ hx510_0)).trans hx510_0); replace p510 := eq_true p510; replace q510 := eq_true q510; have p514 : 0 ≤ (0 : Int) := (by omega); have q514 : 0 < (l0_0.length : Int) := of_decide_eq_true (by assumption); obtain ⟨ad514, e514, hx514_0⟩ := Kd.at_int HR0_0.out 0 p514 q514; have hw514_0 := hx514_0; (try rw [show ((0 : Int)).toNat = 0 from rfl] at hw514_0); (try rw [show 0 * 1 = 0 from rfl] at hw514_0); (try rw [Addr.add_zero'] at hw514_0); obtain rfl : ad510 = ad514 := (by injection e514); have qi514 : (0 < l0_0.length) = True := eq_true (by omega); (try rw [show ((0 : Int)).toNat = 0 from rfl] at hx514_0); (try rw [Addr.add_zero'] at hx514_0); (try replace hx514_0 := (HB.out.cell (World.block_lt_of_cell? w _ hx514_0)).trans hx514_0); replace p514 := eq_true p514; replace q514 := eq_true q514; refine start_ (n := 22) (S := fun w' => w'.cell? ⟨gb508, 0, none⟩ = some (.slice (some ad510) l0_0.length c0_0) ∧ w'.cell? ad510 = some (.int .i64 (rd l0_0 0)) ∧ w'.cell? ad510 = some (.int .i64 (rd l0_0 0))) (ds := []) bA3 (by kernel_rfl) rfl rfl ⟨(blk_cell BK508.out 0).trans rfl, ((HB.out.cell (World.block_lt_of_cell? w _ hw510_0)).trans hw510_0), ((HB.out.cell (World.block_lt_of_cell? w _ hw514_0)).trans hw514_0)⟩ (fun hHeld => ?_); refine with_tabW impl_Contains.tab3 impl_Contains.bits3 (fun HT_ HW_ => ?_); generalize w9.drew = w19 at BK508 HB hx510_0 hx514_0 hHeld ⊢; refine zp 0 (some 12) ?_ bA16 rfl rfl HT_ (by kernel_rfl) (fun _ _ _ h => h) (by rfl) ?_ ?_ ?_ ?_; rotate_left
     ·intro w'; go_simp; (with_reducible rfl)
     rotate_left
     ·simp only [Act.put, qA, qB, qC, i64_w, i32_w]; rfl
     refine zp 1 (some 13) ?_ bA25 rfl rfl HT_ (by kernel_rfl) (fun _ _ _ h => h) (by rfl) ?_ ?_ ?_ ?_; rotate_left
     ·intro w'; go_simp; (with_reducible rfl)
     rotate_left
     ·simp only [Act.put, qA, qB, qC, i64_w, i32_w]; rfl
     refine zp 2 (some 14) ?_ bA33 rfl rfl HT_ (by kernel_rfl) (fun _ _ _ h => h) (by rfl) ?_ ?_ ?_ ?_; rotate_left
     ·intro w'; go_simp; (with_reducible rfl)
     rotate_left
     ·simp only [Act.put, qA, qB, qC, i64_w, i32_w]; rfl
     refine zp 3 (some 15) ?_ bA46 rfl rfl HT_ (by kernel_rfl) (fun _ _ _ h => h) (by rfl) ?_ ?_ ?_ ?_; rotate_left
     ·intro w'; go_simp; (with_reducible rfl)
     rotate_left
     ·simp only [Act.put, qA, qB, qC, i64_w, i32_w]; rfl
     refine zp 5 (some 17) ?_ #[true, true, true, true, false, true, false, false, false, false, false, false, false, false, false, false, false, false, false, false, false, false] rfl rfl HT_ (by kernel_rfl) (fun _ _ _ h => h) (by rfl) ?_ ?_ ?_ ?_; rotate_left
     ·intro w'; go_simp; (with_reducible rfl)
     rotate_left
     ·simp only [Act.put, qA, qB, qC, i64_w, i32_w]; rfl
     refine zp 10 (some 22) ?_ #[true, true, true, true, false, true, false, false, false, false, true, false, false, false, false, false, false, false, false, false, false, false] rfl rfl HT_ (by kernel_rfl) (fun _ _ _ h => h) (by rfl) ?_ ?_ ?_ ?_; rotate_left
     ·intro w'; go_simp; (with_reducible rfl)
     rotate_left
     ·simp only [Act.put, qA, qB, qC, i64_w, i32_w]; rfl
     refine zp 11 (some 23) ?_ #[true, true, true, true, false, true, false, false, false, false, true, true, false, false, false, false, false, false, false, false, false, false] rfl rfl HT_ (by kernel_rfl) (fun _ _ _ h => h) (by rfl) ?_ ?_ ?_ ?_; rotate_left
     ·intro w'; go_simp; (with_reducible rfl)
     rotate_left
     ·simp only [Act.put, qA, qB, qC, i64_w, i32_w]; rfl
     refine zp 18 (some 30) ?_ #[true, true, true, true, false, true, false, false, false, false, true, true, false, false, false, false, false, false, true, false, false, false] rfl rfl HT_ (by kernel_rfl) (fun _ _ _ h => h) (by rfl) ?_ ?_ ?_ ?_; rotate_left
     ·intro w'; go_simp; (with_reducible rfl)
     rotate_left
     ·simp only [Act.put, qA, qB, qC, i64_w, i32_w]; rfl
     refine zt 4 (some 16) ?_ #[true, true, true, true, true, true, false, false, false, false, true, true, false, false, false, false, false, false, true, false, false, false] rfl rfl HT_ HW_ (by kernel_rfl) (fun _ _ _ h => h) (by rfl) ?_ hHeld ?_ ?_ ?_; rotate_left
     ·rintro w' ⟨s0, s1, s2⟩; go_simp; (with_reducible rfl)
     rotate_left
     ·simp only [Act.put, qA, qB, qC, i64_w, i32_w]; rfl
     refine zt 6 (some 18) ?_ #[true, true, true, true, true, true, true, false, false, false, true, true, false, false, false, false, false, false, true, false, false, false] rfl rfl HT_ HW_ (by kernel_rfl) (fun _ _ _ h => h) (by rfl) ?_ hHeld ?_ ?_ ?_; rotate_left
     ·rintro w' ⟨s0, s1, s2⟩; go_simp; (with_reducible rfl)
     rotate_left
     ·simp only [Act.put, qA, qB, qC, i64_w, i32_w]; rfl
     refine zp 7 (some 19) ?_ #[true, true, true, true, true, true, true, true, false, false, true, true, false, false, false, false, false, false, true, false, false, false] rfl rfl HT_ (by kernel_rfl) (fun _ _ _ h => h) (by rfl) ?_ ?_ ?_ ?_; rotate_left
     ·intro w'; go_simp; (with_reducible rfl)
     rotate_left
     ·simp only [Act.put, qA, qB, qC, i64_w, i32_w]; rfl
     refine zt 8 (some 20) ?_ #[true, true, true, true, true, true, true, true, true, false, true, true, false, false, false, false, false, false, true, false, false, false] rfl rfl HT_ HW_ (by kernel_rfl) (fun _ _ _ h => h) (by rfl) ?_ hHeld ?_ ?_ ?_; rotate_left
     ·rintro w' ⟨s0, s1, s2⟩; go_simp; (with_reducible rfl)
     rotate_left
     ·simp only [Act.put, qA, qB, qC, i64_w, i32_w]; rfl
     refine zt 12 (some 24) ?_ #[true, true, true, true, true, true, true, true, true, false, true, true, true, false, false, false, false, false, true, false, false, false] rfl rfl HT_ HW_ (by kernel_rfl) (fun _ _ _ h => h) (by rfl) ?_ hHeld ?_ ?_ ?_; rotate_left
     ·rintro w' ⟨s0, s1, s2⟩; go_simp; (with_reducible rfl)
     rotate_left
     ·simp only [Act.put, qA, qB, qC, i64_w, i32_w]; rfl
     refine zp 13 (some 25) ?_ #[true, true, true, true, true, true, true, true, true, false, true, true, true, true, false, false, false, false, true, false, false, false] rfl rfl HT_ (by kernel_rfl) (fun _ _ _ h => h) (by rfl) ?_ ?_ ?_ ?_; rotate_left
     ·intro w'; go_simp; (with_reducible rfl)
     rotate_left
     ·simp only [Act.put, qA, qB, qC, i64_w, i32_w]; rfl
     refine zt 14 (some 26) ?_ #[true, true, true, true, true, true, true, true, true, false, true, true, true, true, true, false, false, false, true, false, false, false] rfl rfl HT_ HW_ (by kernel_rfl) (fun _ _ _ h => h) (by rfl) ?_ hHeld ?_ ?_ ?_; rotate_left
     ·rintro w' ⟨s0, s1, s2⟩; go_simp; (with_reducible rfl)
     rotate_left
     ·simp only [Act.put, qA, qB, qC, i64_w, i32_w]; rfl
     refine zp 15 (some 27) ?_ #[true, true, true, true, true, true, true, true, true, false, true, true, true, true, true, true, false, false, true, false, false, false] rfl rfl HT_ (by kernel_rfl) (fun _ _ _ h => h) (by rfl) ?_ ?_ ?_ ?_; rotate_left
     ·intro w'; go_simp; (with_reducible rfl)
     rotate_left
     ·simp only [Act.put, qA, qB, qC, i64_w, i32_w]; rfl
     refine one_ (i := 9) (N := some 21) #[true, true, true, true, true, true, true, true, true, true, true, true, true, true, true, true, false, false, true, false, false, false] rfl rfl (one_of HT_.out (by kernel_rfl)) (by decide) (fun K hK => ?_); refine goes_ Try.func129 (by kernel_rfl) rfl #[.slice (some ad510) l0_0.length c0_0, .int .i64 (rd l0_0 0)] (by rfl) rfl rfl (by (try simp only [za, zc, zn]); first | done | rfl) ?_; (with_reducible refine (impl_leasts.calls k _ _ l0_0 (rd l0_0 0) t511 _ ?side1 ?side2 A14.out).mono ?_); (case side1 => exact zC (Kd.C_below HR0_0.out HB.out)); (case side2 => exact HC0_0.out); rintro e w20 ⟨v512, rfl, ho0, hb⟩

     refine ⟨_, rfl, ?_⟩; have n0_ := Aside0.mk (Kd.R_lower ho0 (zS HB.out)); have n1_ := Aside0.mk (blk_below (g := gb508) (o := .cells #[.slice (some ad510) l0_0.length c0_0] 40 (0, 0)) (zk BK508.out) hb); have n2_ := Aside0.mk (below_step (zB HB.out) hb); clear BK508; clear HB; have HO513 := n0_; have BK508 := n1_; have HB := n2_; clear n0_ n1_ n2_; (try clear hb); (try clear hb2); (try clear hk); (try clear hi); (try clear ho0); obtain ⟨Ao21, co21, eo21⟩ := Kd.R_slice HO513.out; (first | subst eo21 | (injection eo21 with f1_ f2_ f3_; have f4_ := f1_.symm; have f5_ := f3_.symm; clear f1_ f2_ f3_; subst f4_; subst f5_)); have p515 : 0 ≤ ((ji16) : Int) := of_decide_eq_true (by assumption); have q515 : (ji16) < (t511.length : Int) := of_decide_eq_true (by assumption); obtain ⟨ad515, e515, hx515_0⟩ := Kd.at_int (Kd.R_reads' HO513.out).2.2 (ji16) p515 q515
     cases e515; replace p515 := eq_true p515; replace q515 := eq_true q515; refine hK.out _ _ ⟨(blk_cell BK508.out 0).trans rfl, ((HB.out.cell (World.block_lt_of_cell? w _ hw510_0)).trans hw510_0), ((HB.out.cell (World.block_lt_of_cell? w _ hw514_0)).trans hw514_0)⟩ (fun hHeld => ?_); clear hK K; refine norm_ (a' := ?_) ?_ ?_; rotate_left
     ·show Act.put _ (some 21) _ = _; simp only [Act.put, qA, qB, qC, i64_w, i32_w]; rfl
     refine zp 16 (some 28) ?_ #[true, true, true, true, true, true, true, true, true, true, true, true, true, true, true, true, true, false, true, false, false, false] rfl rfl HT_ (by kernel_rfl) (fun _ _ _ h => h) (by rfl) ?_ ?_ ?_ ?_; rotate_left
     ·intro w'; go_simp; (with_reducible rfl)
     rotate_left
     ·simp only [Act.put, qA, qB, qC, i64_w, i32_w]; rfl
     refine one_ (i := 17) (N := some 29) bA139 rfl rfl (one_of HT_.out (by kernel_rfl)) (by decide) (fun K hK => ?_); rw [if_pos (by rfl)]; go_simp; refine hK.out _ _ hHeld (fun hHeld => ?_); clear hK K; refine zp 19 (some 31) ?_ bA143 rfl rfl HT_ (by kernel_rfl) (fun _ _ _ h => h) (by rfl) ?_ ?_ ?_ ?_; rotate_left
     ·intro w'; go_simp; (with_reducible rfl)
     rotate_left
     ·simp only [Act.put, qA, qB, qC, i64_w, i32_w]; rfl
     refine zp 20 (some 32) ?_ bA148 rfl rfl HT_ (by kernel_rfl) (fun _ _ _ h => h) (by rfl) ?_ ?_ ?_ ?_; rotate_left
     ·intro w'; go_simp; (with_reducible rfl)
     rotate_left
     ·simp only [Act.put, qA, qB, qC, i64_w, i32_w]; rfl
     refine zp 21 (some 4) ?_ bA200 rfl rfl HT_ (by kernel_rfl) (fun _ _ _ h => h) (by rfl) ?_ ?_ ?_ ?_; rotate_left
     ·intro w'; go_simp; (with_reducible rfl)
     rotate_left
     ·simp only [Act.put, qA, qB, qC, i64_w, i32_w]; rfl
     refine done_ (done_of HT_.out (by kernel_rfl)) ?_
     try go_wp2
     go_ret
     exact ⟨by first | rfl | (simp [errW_none, errW_some] <;> rfl) | (simp only [← hji16]; first | rfl | (simp [errW_none, errW_some] <;> rfl)) | (simp [*, errW_none, errW_some] <;> rfl), zB HB.out⟩
  ·replace c10 := Bool.eq_false_iff.mpr c10; subst c10; rw [zF] at H; obtain rfl := Option.some.inj H; go_wp2; go_ret
   exact ⟨by first | rfl | (simp [errW_none, errW_some] <;> rfl) | (simp [*, errW_none, errW_some] <;> rfl), zB HB.out⟩

/-! ### impl_IndexOfElement: function 42 -/
mutual
def impl_IndexOfElement.j0 : Nat → Int → Bool → List Int → Option (Int)
 | 0, _, _, _ => none
 | k + 1, x1, x16, x517000 => if x16 = true then (some (-1)) else ((impl_table.f k x517000 x1).bind fun t519 => (if 0 ≤ x1 then (if x1 ≤ (t519.length : Int) then ((some (t519.take (x1 : Int).toNat : List Bool)).bind fun y522 => (impl_IndexOfElement.l0 k 0 y522 (y522.length : Int) 0)) else (none)) else (none)))
def impl_IndexOfElement.l0 : Nat → Int → List Bool → Int → Int → Option (Int)
 | 0, _, _, _, _ => none
 | k + 1, x5, x21, x22, x23 => if x23 < x22 then (if 0 ≤ x23 then (if x23 < (x21.length : Int) then (if rdOf false x21 x23 = true then (impl_IndexOfElement.l0 k (wrap64 (x5 + 1)) x21 x22 (wrap64 (x23 + 1))) else (impl_IndexOfElement.l0 k x5 x21 x22 (wrap64 (x23 + 1)))) else (none)) else (none)) else (some x5)
end
def impl_IndexOfElement.f (k : Nat) (l0_0 : List Int) (a1 : Int) : Option (Int) := (impl_within.f a1 0 200).bind fun t517 => (if t517 = true then ((impl_Contains.f k l0_0 a1).bind fun t518 => (impl_IndexOfElement.j0 k a1 (!t518) l0_0)) else (impl_IndexOfElement.j0 k a1 true l0_0))
set_option maxHeartbeats 8000000 in
set_option maxRecDepth 100000 in
theorem impl_IndexOfElement.calls (k : Nat) (A0_0 : Option Addr) (c0_0 : Nat) (l0_0 : List Int) (a1 : Int) (r : Int) (w : World) (hr0_0 : Kd.C (Kd.int .i64) w A0_0 l0_0.length l0_0) (hc0_0 : l0_0.length ≤ c0_0) (h : impl_IndexOfElement.f k l0_0 a1 = some r) :
  Calls Try.prog 42 #[.agg #[.slice A0_0 l0_0.length c0_0], .int .i64 a1] w fun e w' => e = .returned (.int .i64 r) ∧ Below w.heap.size w w' := by
 have hu40 := Try.underlying40; have HR0_0 := Aside0.mk hr0_0; have HC0_0 := Aside0.mk hc0_0; clear hr0_0 hc0_0; have HB := Aside0.mk (Below.refl w.heap.size w); have H : ((impl_within.f a1 0 200).bind fun t517 => (if t517 = true then ((impl_Contains.f k l0_0 a1).bind fun t518 => (impl_IndexOfElement.j0 k a1 (!t518) l0_0)) else (impl_IndexOfElement.j0 k a1 true l0_0))) = some r := h; clear h; have HC3 := Aside0.mk H; clear H; go_enter Try.func42, Try.ntmps42; go_upto_region 1 with (first | ((with_reducible refine gate_dst (N := 2) rfl ?_); refine box_event ?hg (N := 2) ?hd (cs := #[.slice A0_0 l0_0.length c0_0]) (t := 40) ?hr ?_; (case hd => rfl); (case hg => rfl); (case hr => first | (go_simp; done) | (go_simp; rfl)); intro gb516 hg w4 hbox hb; have n0_ := Aside0.mk (below_step (zB HB.out) hb); have n1_ := Aside0.mk (hbox); have n2_ := Aside0.mk ((by rw [hg]; exact (zS HB.out) : w.heap.size ≤ gb516)); have n3_ := Aside0.mk ((by rw [hg]; exact (zS HB.out) : w.heap.size ≤ gb516)); clear HB; have HB := n0_; have BK516 := n1_; have GW516 := n2_; have GE516 := n3_; clear n0_ n1_ n2_ n3_; clear hb hbox hg))
 (try simp only [Act.put, List.setIfInBounds_toArray, List.set_cons_zero, List.set_cons_succ]); go_cut [16] (fun v16 wc => ∃ (kq : Nat) (x16_2 : Bool), v16 = .bool x16_2 ∧ Aside0 (impl_IndexOfElement.j0 kq a1 x16_2 l0_0 = some r) ∧ Aside0 (kq ≤ k) ∧ Aside0 (wc.heap[gb516]? = some (.cells #[(.slice A0_0 l0_0.length c0_0)] 40 (0, 0))) ∧ Aside0 (Below w.heap.size w wc))
 case first =>
  have H := HC3.out; clear HC3; obtain ⟨t517, A5, H⟩ := zb H
  by_cases c6 : t517 = true
  ·subst c6; rw [zT] at H; obtain ⟨t518, A7, H⟩ := zb H; have H' := Aside0.mk H; clear H; go_wp2_with (first | ((with_reducible refine gate_callee (f := 119) rfl ?_); refine goesL_ (some 9) rfl rfl Try.func119 (by kernel_rfl) rfl #[.int .i64 a1, .int .i64 0, .int .i64 200] rfl (by (try simp only [za, zc, zn]); first | done | rfl) ?_; (with_reducible refine (impl_within.calls a1 0 200 true _ A5.out).mono ?_); rintro e w8 ⟨rfl, hb⟩; refine ⟨_, rfl, ?_⟩; have n0_ := Aside0.mk (blk_below (g := gb516) (o := .cells #[.slice A0_0 l0_0.length c0_0] 40 (0, 0)) (zk BK516.out) hb); have n1_ := Aside0.mk (below_step (zB HB.out) hb); clear BK516; clear HB; have BK516 := n0_; have HB := n1_; clear n0_ n1_; (try clear hb); (try clear hb2); (try clear hk); (try clear hi); have hcz9_0 : w8.cell? ⟨gb516, 0, none⟩ = some (.slice A0_0 l0_0.length c0_0) := (blk_cell BK516.out 0).trans rfl; have hfz9_0 := blk_frozen BK516.out 0) | (go_at_call 55; (with_reducible refine (impl_Contains.calls k _ _ l0_0 a1 t518 _ ?side1 ?side2 A7.out).mono ?_); (case side1 => exact zC (Kd.C_below HR0_0.out HB.out)); (case side2 => exact HC0_0.out); rintro e w10 ⟨rfl, hb⟩; have n0_ := Aside0.mk (blk_below (g := gb516) (o := .cells #[.slice A0_0 l0_0.length c0_0] 40 (0, 0)) (zk BK516.out) hb); have n1_ := Aside0.mk (below_step (zB HB.out) hb); clear BK516; clear HB; have BK516 := n0_; have HB := n1_; clear n0_ n1_; (try clear hb); (try clear hb2); (try clear hk); (try clear hi)))
   go_meet
   case rel => exact ⟨_, (!t518), (by first | rfl | (simp; done) | (simp [*]; done)), H', ⟨by first | omega | exact Nat.le_refl _⟩, ⟨zk BK516.out⟩, ⟨zB HB.out⟩⟩
  ·replace c6 := Bool.eq_false_iff.mpr c6; subst c6; rw [zF] at H; have H' := Aside0.mk H; clear H; go_wp2_with (first | ((with_reducible refine gate_callee (f := 119) rfl ?_); refine goesL_ (some 9) rfl rfl Try.func119 (by kernel_rfl) rfl #[.int .i64 a1, .int .i64 0, .int .i64 200] rfl (by (try simp only [za, zc, zn]); first | done | rfl) ?_; (with_reducible refine (impl_within.calls a1 0 200 false _ A5.out).mono ?_); rintro e w11 ⟨rfl, hb⟩; refine ⟨_, rfl, ?_⟩; have n0_ := Aside0.mk (blk_below (g := gb516) (o := .cells #[.slice A0_0 l0_0.length c0_0] 40 (0, 0)) (zk BK516.out) hb); have n1_ := Aside0.mk (below_step (zB HB.out) hb); clear BK516; clear HB; have BK516 := n0_; have HB := n1_; clear n0_ n1_; (try clear hb); (try clear hb2); (try clear hk); (try clear hi)))
   go_meet
   case rel => exact ⟨_, (true), (by first | rfl | (simp; done) | (simp [*]; done)), H', ⟨by first | omega | exact Nat.le_refl _⟩, ⟨zk BK516.out⟩, ⟨zB HB.out⟩⟩
 case rest =>
  clear HC3
  try clear c1
  try clear p2
  try clear c4
  try clear c6
  try clear c11
  try clear hcz9_0
  try clear hfz9_0
  obtain ⟨kq, x16_2, rfl, HA, HJ2, BK516, HB⟩ := hcut
  cases kq with
  | zero => exact absurd HA.out (by simp [impl_IndexOfElement.j0])
  | succ kj2 =>
   have H := HA.out; clear HA; simp only [impl_IndexOfElement.j0] at H
   by_cases c12 : x16_2 = true
   ·subst c12; rw [zT] at H; obtain rfl := Option.some.inj H; go_wp2; go_ret
    exact ⟨by first | rfl | (simp [errW_none, errW_some] <;> rfl) | (simp [*, errW_none, errW_some] <;> rfl), zB HB.out⟩
   ·replace c12 := Bool.eq_false_iff.mpr c12; subst c12; rw [zF] at H; obtain ⟨t519, A13, H⟩ := zb H
    by_cases c14 : 0 ≤ a1
    ·rw [if_pos c14] at H; have c14b0 := eq_true c14; have c14b1 : decide (0 ≤ a1) = true := decide_eq_true c14; clear c14; obtain ⟨c15, H⟩ := zi H; have c15b0 := eq_true c15; have c15b1 : decide (a1 ≤ (t519.length : Int)) = true := decide_eq_true c15; clear c15; obtain ⟨y522, Ny522⟩ : ∃ y_ : List Bool, Aside0 (y_ = (t519.take (a1 : Int).toNat)) := ⟨_, ⟨rfl⟩⟩; (try rw [Option.bind_some] at H); (try rw [← Ny522.out] at H); have H' := Aside0.mk H; clear H; have hcz16_0 : wc.cell? ⟨gb516, 0, none⟩ = some (.slice A0_0 l0_0.length c0_0) := (blk_cell BK516.out 0).trans rfl; have hfz16_0 := blk_frozen BK516.out 0; go_wp2_with (first | ((with_reducible refine gate_callee (f := 117) rfl ?_); refine goesL_ (some 19) rfl rfl Try.func117 (by kernel_rfl) rfl #[.agg #[.slice A0_0 l0_0.length c0_0], .int .i64 a1] rfl (by (try simp only [za, zc, zn]); first | done | rfl) ?_; (with_reducible refine (impl_table.calls kj2 _ _ l0_0 a1 t519 _ ?side1 ?side2 A13.out).mono ?_); (case side1 => exact zC (Kd.C_below HR0_0.out HB.out)); (case side2 => exact HC0_0.out); rintro e w17 ⟨v520, rfl, ho0, hb⟩; refine ⟨_, rfl, ?_⟩; have n0_ := Aside0.mk (Kd.R_lower ho0 (zS HB.out)); have n1_ := Aside0.mk (blk_below (g := gb516) (o := .cells #[.slice A0_0 l0_0.length c0_0] 40 (0, 0)) (zk BK516.out) hb); have n2_ := Aside0.mk (below_step (zB HB.out) hb); clear BK516; clear HB; have HO521 := n0_; have BK516 := n1_; have HB := n2_; clear n0_ n1_ n2_; (try clear hb); (try clear hb2); (try clear hk); (try clear hi); (try clear ho0); obtain ⟨Ao19, co19, eo19⟩ := Kd.R_slice HO521.out; subst eo19; have q18 : (a1 : Int) ≤ ((t519.length : Int) : Int) := of_decide_eq_true (by assumption); obtain ⟨i018, hi018, _, hsz18, _⟩ := info_parts info4; have hroom18 : t519.length ≤ co19 := (Kd.R_reads' HO521.out).2.1; have hC18 : Kd.C Kd.bool _ Ao19 t519.length t519 := (Kd.R_reads' HO521.out).2.2; have hcut18 := cut_to (P := Try.prog) 71 4 .i64 Try.underlying71 hi018 Ao19 t519.length co19 a1 (of_decide_eq_true (by assumption)) q18 hroom18; have hr18 := Kd.C_take (m := (a1 : Int).toNat) hC18 (by omega); have hy18 : y522.length = (a1 : Int).toNat := (by rw [Ny522.out, List.length_take]; omega); rw [← Ny522.out] at hr18; rw [← hy18] at hcut18; have HR525 := Aside0.mk hr18; have HC525 := Aside0.mk (show y522.length ≤ co19 from by omega); clear hr18 hC18 hroom18 hi018 hsz18; have KY18 := Aside0.mk hy18; clear hy18; have KL18 := Aside0.mk (show (a1 : Int).toNat ≤ t519.length from by omega); replace q18 := eq_true q18)); go_loopg [5, 23] kj2 (fun kq v5 v23 w' => ∃ (x5_2 : Int) (x23_2 : Int), v5 = .int .i64 x5_2 ∧ v23 = .int .i64 x23_2 ∧ Aside0 (impl_IndexOfElement.l0 kq x5_2 y522 (y522.length : Int) x23_2 = some r) ∧ Aside0 (kq ≤ kj2) ∧ Aside0 (w'.heap[gb516]? = some (.cells #[(.slice A0_0 l0_0.length c0_0)] 40 (0, 0))) ∧ Aside0 (Kd.C Kd.bool w' Ao19 y522.length y522) ∧ Aside0 (Below w.heap.size w w'))
     case atStart => exact ⟨(0), (0), (by first | rfl | (simp; done) | (simp [*]; done)), (by first | rfl | (simp; done) | (simp [*]; done)), H', ⟨Nat.le_refl _⟩, ⟨zk BK516.out⟩, ⟨zC HR525.out⟩, ⟨zB HB.out⟩⟩
     case round =>
      clear H'
      try clear c1
      try clear q1
      try clear p2
      try clear c4
      try clear c6
      try clear c11
      try clear c12
      try clear c14
      try clear c14b0
      try clear c14b1
      try clear c15
      try clear c15b0
      try clear c15b1
      try clear q18
      try clear hcz16_0
      try clear hcz9_0
      try clear hfz16_0
      try clear hfz9_0
      try clear p2
      try clear q18
      obtain ⟨x5_2, x23_2, rfl, rfl, HA, HK2, BK516, HR525, HB⟩ := hrel
      cases gk with
      | zero => exact absurd HA.out (by simp [impl_IndexOfElement.l0])
      | succ k2 =>
       have H := HA.out; clear HA; simp only [impl_IndexOfElement.l0] at H
       by_cases c20 : x23_2 < (y522.length : Int)
       ·rw [if_pos c20] at H; have c20b0 : decide (x23_2 < (y522.length : Int)) = true := decide_eq_true c20; clear c20; obtain ⟨c21, H⟩ := zi H; have c21b0 : decide (0 ≤ x23_2) = true := decide_eq_true c21; clear c21; obtain ⟨c22, H⟩ := zi H; have c22b0 : decide (x23_2 < (y522.length : Int)) = true := decide_eq_true c22; clear c22; obtain ⟨bq23, hbq23⟩ : ∃ b_ : Bool, b_ = (rdOf false y522 x23_2) := ⟨_, rfl⟩; replace H : (if bq23 = true then (impl_IndexOfElement.l0 k2 (wrap64 (x5_2 + 1)) y522 (y522.length : Int) (wrap64 (x23_2 + 1))) else (impl_IndexOfElement.l0 k2 x5_2 y522 (y522.length : Int) (wrap64 (x23_2 + 1)))) = some r := by rw [← hbq23] at H; exact H
        have Nbq23 := Aside0.mk hbq23; clear hbq23
        by_cases c24 : bq23 = true
        ·subst c24; rw [zT] at H; have H' := Aside0.mk H; clear H; have p526 : 0 ≤ (x23_2 : Int) := of_decide_eq_true (by assumption); have q526 : x23_2 < (y522.length : Int) := of_decide_eq_true (by assumption); obtain ⟨ad526, e526, hx526_0⟩ := Kd.at_bool HR525.out x23_2 p526 q526; (try rw [← Nbq23.out] at hx526_0)
         cases e526; (try replace hx526_0 := (HB.out.cell (World.block_lt_of_cell? w _ hx526_0)).trans hx526_0); replace p526 := eq_true p526; replace q526 := eq_true q526; go_wp2
         go_roundg k2
         case measure => have := HJ2.out; have := HK2.out; omega
         case rel => exact ⟨(wrap64 (x5_2 + 1)), (wrap64 (x23_2 + 1)), (by first | rfl | (simp; done) | (simp [*]; done)), (by first | rfl | (simp; done) | (simp [*]; done)), H', ⟨by have := HJ2.out; have := HK2.out; omega⟩, ⟨zk BK516.out⟩, ⟨zC HR525.out⟩, ⟨zB HB.out⟩⟩
        ·replace c24 := Bool.eq_false_iff.mpr c24; subst c24; rw [zF] at H; have H' := Aside0.mk H; clear H; have p526 : 0 ≤ (x23_2 : Int) := of_decide_eq_true (by assumption); have q526 : x23_2 < (y522.length : Int) := of_decide_eq_true (by assumption); obtain ⟨ad526, e526, hx526_0⟩ := Kd.at_bool HR525.out x23_2 p526 q526; (try rw [← Nbq23.out] at hx526_0)
         cases e526; (try replace hx526_0 := (HB.out.cell (World.block_lt_of_cell? w _ hx526_0)).trans hx526_0); replace p526 := eq_true p526; replace q526 := eq_true q526; go_wp2
         go_roundg k2
         case measure => have := HJ2.out; have := HK2.out; omega
         case rel => exact ⟨(x5_2), (wrap64 (x23_2 + 1)), (by first | rfl | (simp; done) | (simp [*]; done)), (by first | rfl | (simp; done) | (simp [*]; done)), H', ⟨by have := HJ2.out; have := HK2.out; omega⟩, ⟨zk BK516.out⟩, ⟨zC HR525.out⟩, ⟨zB HB.out⟩⟩
       ·rw [if_neg c20] at H; have c20b0 : decide (x23_2 < (y522.length : Int)) = false := decide_eq_false c20; clear c20; obtain rfl := Option.some.inj H; go_wp2; go_ret
        exact ⟨by first | rfl | (simp [errW_none, errW_some] <;> rfl) | (simp [*, errW_none, errW_some] <;> rfl), zB HB.out⟩
    ·rw [if_neg c14] at H; exact absurd H (by simp)

end Go.Proofs.Ytbagfnppeidonaa.PFnGaps
