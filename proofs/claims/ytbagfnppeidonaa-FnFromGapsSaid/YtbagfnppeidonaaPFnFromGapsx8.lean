-- Written by a program of this session (a turned copy of the kit's print; see NOTES.md).
import Derived.Test.YtbagfnppeidonaaPFnFromGapsx0
namespace Go.Proofs.Ytbagfnppeidonaa.PFnFromGaps
open Go.RowKit Go.Proofs.YtbagfnppeidonaaW.PrintWords Go.Proofs.YtbagfnppeidonaaW.PrintLast Go.Proofs.YtbagfnppeidonaaW.PrintMore
attribute [local go_sem] max2_int min2_int max_two min_two max_three min_three max_four min_four   -- for this text's walks alone
set_option linter.unusedVariables false
set_option linter.unusedSimpArgs false

/-! ### spec_SortList: function 26 -/
mutual
def spec_SortList.l0 : Nat → List Int → List Int → Int → Option (List Int)
 | 0, _, _, _ => none
 | k + 1, x0, x3, x4 => if x4 < (x0.length : Int) then (spec_SortList.l1 k x0 x3 x4 (x3.length : Int)) else (some x3)
def spec_SortList.l1 : Nat → List Int → List Int → Int → Int → Option (List Int)
 | 0, _, _, _, _ => none
 | k + 1, x0, x3, x4, x5 => if x5 > 0 then (if 0 ≤ (wrap64 (x5 - 1)) then (if (wrap64 (x5 - 1)) < (x3.length : Int) then (if 0 ≤ x4 then (if x4 < (x0.length : Int) then (if (rd x3 (wrap64 (x5 - 1))) > (rd x0 x4) then (spec_SortList.l1 k x0 x3 x4 (wrap64 (x5 - 1))) else (if (rd x3 (wrap64 (x5 - 1))) = (rd x0 x4) then (spec_SortList.l0 k x0 x3 (wrap64 (x4 + 1))) else ((some (([] : List Int) : List Int)).bind fun y212 => (if 0 ≤ x5 then (if x5 ≤ (x3.length : Int) then ((some (x3.drop (x5 : Int).toNat : List Int)).bind fun y215 => (if y212.length + y215.length < 17592186044416 then ((some (y212 ++ y215 : List Int)).bind fun y219 => ((some (x3.take (x5 : Int).toNat : List Int)).bind fun y222 => (if y222.length < 17592186044416 then ((some (y222 ++ [rd x0 x4] : List Int)).bind fun y226 => (if y226.length + y219.length < 17592186044416 then (spec_SortList.l0 k x0 (y226 ++ y219) (wrap64 (x4 + 1))) else (none))) else (none)))) else (none))) else (none)) else (none))))) else (none)) else (none)) else (none)) else (none)) else ((some (([] : List Int) : List Int)).bind fun y232 => (if 0 ≤ x5 then (if x5 ≤ (x3.length : Int) then ((some (x3.drop (x5 : Int).toNat : List Int)).bind fun y235 => (if y232.length + y235.length < 17592186044416 then ((some (y232 ++ y235 : List Int)).bind fun y239 => ((some (x3.take (x5 : Int).toNat : List Int)).bind fun y242 => (if 0 ≤ x4 then (if x4 < (x0.length : Int) then (if y242.length < 17592186044416 then ((some (y242 ++ [rd x0 x4] : List Int)).bind fun y246 => (if y246.length + y239.length < 17592186044416 then (spec_SortList.l0 k x0 (y246 ++ y239) (wrap64 (x4 + 1))) else (none))) else (none)) else (none)) else (none)))) else (none))) else (none)) else (none)))
end
def spec_SortList.f (k : Nat) (l0 : List Int) : Option (List Int) := spec_SortList.l0 k l0 (([] : List Int)) 0
def spec_SortList.T6 : Bool × List (List Nat × List Nat) := (true, [([], []), ([0], [0]), ([1], [1]), ([2], [2]), ([2], [2]), ([4, 2], [2, 4]), ([3, 5, 2], [2, 3, 5]), ([6, 2], [2, 6]), ([2], [2]), ([2], [2]), ([8, 9, 2], [2, 8, 9]), ([10, 2], [2, 10]), ([7, 11, 2], [2, 7, 11]), ([2, 12], [2, 12])])
def spec_SortList.B6 : List Nat := [0, 1, 3, 7, 7, 23, 63, 127, 7, 7, 775, 1799, 4095, 8191]
theorem spec_SortList.tab6 : rtab .any (opsOf Try.f26 6) = spec_SortList.T6 := by kernel_rfl
theorem spec_SortList.bits6 : waitsOk spec_SortList.T6.2 spec_SortList.B6 = true := by kernel_rfl
def spec_SortList.T8 : Bool × List (List Nat × List Nat) := (true, [([], []), ([0], [0]), ([1], [1]), ([2], [2]), ([2], [2]), ([4, 2], [2, 4]), ([3, 5, 2], [2, 3, 5]), ([6, 2], [2, 6]), ([2], [2]), ([2], [2]), ([8, 9, 2], [2, 8, 9]), ([10, 2], [2, 10]), ([7, 11, 2], [2, 7, 11]), ([2, 12], [2, 12])])
def spec_SortList.B8 : List Nat := [0, 1, 3, 7, 7, 23, 63, 127, 7, 7, 775, 1799, 4095, 8191]
theorem spec_SortList.tab8 : rtab .any (opsOf Try.f26 8) = spec_SortList.T8 := by kernel_rfl
theorem spec_SortList.bits8 : waitsOk spec_SortList.T8.2 spec_SortList.B8 = true := by kernel_rfl
def spec_SortList.T10 : Bool × List (List Nat × List Nat) := (true, [([], []), ([], []), ([0, 1], [0, 1]), ([], []), ([], []), ([3, 4], [3, 4]), ([5], [5]), ([6], [6]), ([2, 7], [2, 7]), ([], []), ([8, 9, 8], [8, 9]), ([10, 10, 0, 1, 2, 3, 4, 5, 6, 7, 8, 9, 10], [0, 10])])
def spec_SortList.B10 : List Nat := [0, 0, 3, 0, 0, 24, 56, 120, 255, 0, 1023, 2047]
theorem spec_SortList.tab10 : rtab .any (opsOf Try.f26 10) = spec_SortList.T10 := by kernel_rfl
theorem spec_SortList.bits10 : waitsOk spec_SortList.T10.2 spec_SortList.B10 = true := by kernel_rfl
set_option maxHeartbeats 8000000 in
set_option maxRecDepth 100000 in
theorem spec_SortList.calls (k : Nat) (A0 : Option Addr) (c0 : Nat) (l0 : List Int) (r : List Int) (w : World) (hr0 : Kd.C (Kd.int .i64) w A0 l0.length l0) (hc0 : l0.length ≤ c0) (h : spec_SortList.f k l0 = some r) :
  Calls Try.prog 26 #[.slice A0 l0.length c0] w fun e w' => ∃ v0_ : Value, e = .returned (v0_) ∧ Kd.R (Kd.int .i64) 3 w' w.heap.size (fun _ => True) v0_ r ∧ Below w.heap.size w w' := by
 have HR0 := Aside0.mk hr0; have HC0 := Aside0.mk hc0; clear hr0 hc0; have HB := Aside0.mk (Below.refl w.heap.size w); have H : (spec_SortList.l0 k l0 (([] : List Int)) 0) = some r := h; clear h; obtain ⟨y205, hy205⟩ : ∃ y_ : List Int, y_ = (([] : List Int)) := ⟨_, rfl⟩; replace H : (spec_SortList.l0 k l0 y205 0) = some r := by first | (rw [hy205]; with_reducible exact H) | (have H2_ := (Option.bind_some _ _).symm.trans H; rw [hy205]; with_reducible exact H2_) | (have H2_ := (Option.bind_some _ _).symm.trans H; with_reducible exact H2_) | with_reducible exact H | (rw [hy205]; exact H) | exact H
 have Ny205 := Aside0.mk hy205; clear hy205; have H' := Aside0.mk H; clear H; go_enter Try.func26, Try.ntmps26; go_wp2_with (first | ((with_reducible refine gate_dst (N := 7) rfl ?_); refine Kd.R_lit (Kd.int .i64) _ 3 ?hg (N := 7) ?hd (xs := ([] : List Int)) (inner := []) (ok := fun _ => True) (okp := fun _ => True) ?hr ?hp (fun _ hk => hk) trivial (Below.refl _ _) (Nat.le_refl _) (by simp) ?_; (case hd => rfl); (case hg => rfl); (case hr => first | (go_simp; done) | (go_simp; rfl)); (case hp => exact (Reps.none _ _)); intro v206 w2 ho3 hb hg_ hnew_; clear hg_ hnew_; (first | rw [← Ny205.out] at ho3 | (simp only [Int.reduceToNat] at ho3; rw [← Ny205.out] at ho3)); have HO207 := Aside0.mk (Kd.R_lower ho3 (zS HB.out)); replace HB := Aside0.mk (below_step (zB HB.out) hb); clear hb ho3)); go_loopg [3, 4] k (fun kq v3 v4 w' => ∃ (x3_1 : List Int) (x4_1 : Int), v4 = .int .i64 x4_1 ∧ Aside0 (spec_SortList.l0 kq l0 x3_1 x4_1 = some r) ∧ Aside0 (kq ≤ k) ∧ Aside0 (Kd.R (Kd.int .i64) 3 w' w.heap.size (fun _ => True) v3 x3_1) ∧ Aside0 (Below w.heap.size w w'))
 case atStart => exact ⟨(y205), (0), (by first | rfl | (simp; done) | (simp [*]; done)), H', ⟨Nat.le_refl _⟩, ⟨zR HO207.out⟩, ⟨zB HB.out⟩⟩
 case round =>
  clear H'; obtain ⟨x3_1, x4_1, rfl, HA, HK1, HO_3, HB⟩ := hrel
  cases gk with
  | zero => exact absurd HA.out (by simp [spec_SortList.l0])
  | succ k1 =>
   have H := HA.out; clear HA; simp only [spec_SortList.l0] at H
   by_cases c4 : x4_1 < (l0.length : Int)
   ·rw [if_pos c4] at H; have c4b0 : decide (x4_1 < (l0.length : Int)) = true := decide_eq_true c4; clear c4; have H' := Aside0.mk H; clear H; obtain ⟨Ao5, co5, eo5⟩ := Kd.R_slice HO_3.out; subst eo5; go_wp2; go_loopg [5] k1 (fun kq v5 w' => ∃ (x5_2 : Int), v5 = .int .i64 x5_2 ∧ Aside0 (spec_SortList.l1 kq l0 x3_1 x4_1 x5_2 = some r) ∧ Aside0 (kq ≤ k1) ∧ Aside0 (Kd.R (Kd.int .i64) 3 w' w.heap.size (fun _ => True) (.slice Ao5 x3_1.length co5) x3_1) ∧ Aside0 (Below w.heap.size w w'))
    case atStart => exact ⟨((x3_1.length : Int)), (by first | rfl | (simp; done) | (simp [*]; done)), H', ⟨Nat.le_refl _⟩, ⟨zR HO_3.out⟩, ⟨zB HB.out⟩⟩
    case round =>
     clear H'
     try clear c4b0
     obtain ⟨x5_2, rfl, HA, HK2, HO_3, HB⟩ := hrel
     cases gk with
     | zero => exact absurd HA.out (by simp [spec_SortList.l1])
     | succ k2 =>
      have H := HA.out; clear HA; simp only [spec_SortList.l1] at H
      by_cases c6 : x5_2 > 0
      ·rw [if_pos c6] at H; have c6b0 : decide (0 < x5_2) = true := decide_eq_true c6; clear c6; obtain ⟨ji7, hji7⟩ : ∃ j_ : Int, (wrap64 (x5_2 - 1)) = j_ := ⟨_, rfl⟩; replace H : (if 0 ≤ (ji7) then (if (ji7) < (x3_1.length : Int) then (if 0 ≤ x4_1 then (if x4_1 < (l0.length : Int) then (if (rd x3_1 (ji7)) > (rd l0 x4_1) then (spec_SortList.l1 k2 l0 x3_1 x4_1 ji7) else (if (rd x3_1 (ji7)) = (rd l0 x4_1) then (spec_SortList.l0 k2 l0 x3_1 (wrap64 (x4_1 + 1))) else ((some (([] : List Int) : List Int)).bind fun y212 => (if 0 ≤ x5_2 then (if x5_2 ≤ (x3_1.length : Int) then ((some (x3_1.drop (x5_2 : Int).toNat : List Int)).bind fun y215 => (if y212.length + y215.length < 17592186044416 then ((some (y212 ++ y215 : List Int)).bind fun y219 => ((some (x3_1.take (x5_2 : Int).toNat : List Int)).bind fun y222 => (if y222.length < 17592186044416 then ((some (y222 ++ [rd l0 x4_1] : List Int)).bind fun y226 => (if y226.length + y219.length < 17592186044416 then (spec_SortList.l0 k2 l0 (y226 ++ y219) (wrap64 (x4_1 + 1))) else (none))) else (none)))) else (none))) else (none)) else (none))))) else (none)) else (none)) else (none)) else (none)) = some r := by first | (rw [hji7] at H; exact H) | (simp only [hji7] at H ⊢; exact H)
       have hji7w : (IntKind.i64.wrap (x5_2 - 1)) = ji7 := (i64_w _).trans hji7; obtain ⟨c8, H⟩ := zi H; have c8b0 : decide (0 ≤ (ji7)) = true := decide_eq_true c8; clear c8; obtain ⟨c9, H⟩ := zi H; have c9b0 : decide ((ji7) < (x3_1.length : Int)) = true := decide_eq_true c9; clear c9; obtain ⟨c10, H⟩ := zi H; have c10b0 : decide (0 ≤ x4_1) = true := decide_eq_true c10; clear c10; obtain ⟨c11, H⟩ := zi H; have c11b0 : decide (x4_1 < (l0.length : Int)) = true := decide_eq_true c11; clear c11
       by_cases c12 : (rd x3_1 (ji7)) > (rd l0 x4_1)
       ·rw [if_pos c12] at H; have c12b0 : decide ((rd l0 x4_1) < (rd x3_1 (ji7))) = true := decide_eq_true c12; clear c12; have H' := Aside0.mk H; clear H
        try go_wp2
        replace HO_3 := Aside0.mk (Kd.R_drew HO_3.out); replace HB := Aside0.mk (below_drew1 HB.out); have p208 : 0 ≤ ((ji7) : Int) := of_decide_eq_true (by assumption); have q208 : (ji7) < (x3_1.length : Int) := of_decide_eq_true (by assumption); obtain ⟨ad208, e208, hx208_0⟩ := Kd.at_int (Kd.R_reads' HO_3.out).2.2 (ji7) p208 q208
        cases e208; replace p208 := eq_true p208; replace q208 := eq_true q208; have p209 : 0 ≤ (x4_1 : Int) := of_decide_eq_true (by assumption); have q209 : x4_1 < (l0.length : Int) := of_decide_eq_true (by assumption); obtain ⟨ad209, e209, hx209_0⟩ := Kd.at_int HR0.out x4_1 p209 q209; have hw209_0 := hx209_0
        cases e209; (try replace hx209_0 := (HB.out.cell (World.block_lt_of_cell? w _ hx209_0)).trans hx209_0); replace p209 := eq_true p209; replace q209 := eq_true q209; refine start_ (n := 14) (S := fun w' => w'.cell? (ad208.add ((ji7)).toNat) = some (.int .i64 (rd x3_1 (ji7))) ∧ w'.cell? (ad209.add (x4_1).toNat) = some (.int .i64 (rd l0 x4_1))) (ds := []) bA2 (by kernel_rfl) rfl rfl ⟨hx208_0, ((HB.out.cell (World.block_lt_of_cell? w _ hw209_0)).trans hw209_0)⟩ (fun hHeld => ?_); refine with_tabW spec_SortList.tab6 spec_SortList.bits6 (fun HT_ HW_ => ?_); generalize wr.drew = w13 at HO_3 HB hx208_0 hx209_0 hHeld ⊢; refine zp 0 (some 16) ?_ bA9 rfl rfl HT_ (by kernel_rfl) (fun _ _ _ h => h) (by rfl) ?_ ?_ ?_ ?_; rotate_left
        ·intro w'; go_simp; (with_reducible rfl)
        rotate_left
        ·simp only [Act.put, qA, qB, qC, i64_w, i32_w]; rfl
        refine zp 1 (some 17) ?_ bA15 rfl rfl HT_ (by kernel_rfl) (fun _ _ _ h => h) (by rfl) ?_ ?_ ?_ ?_; rotate_left
        ·intro w'; go_simp; (with_reducible rfl)
        rotate_left
        ·simp only [Act.put, qA, qB, qC, i64_w, i32_w]; rfl
        refine zp 2 (some 18) ?_ bA20 rfl rfl HT_ (by kernel_rfl) (fun _ _ _ h => h) (by rfl) ?_ ?_ ?_ ?_; rotate_left
        ·intro w'; go_simp; (with_reducible rfl)
        rotate_left
        ·simp only [Act.put, qA, qB, qC, i64_w, i32_w]; rfl
        refine zp 3 (some 19) ?_ bA29 rfl rfl HT_ (by kernel_rfl) (fun _ _ _ h => h) (by rfl) ?_ ?_ ?_ ?_; rotate_left
        ·intro w'; go_simp; (with_reducible rfl)
        rotate_left
        ·simp only [Act.put, qA, qB, qC, i64_w, i32_w]; rfl
        refine zp 4 (some 20) ?_ bA37 rfl rfl HT_ (by kernel_rfl) (fun _ _ _ h => h) (by rfl) ?_ ?_ ?_ ?_; rotate_left
        ·intro w'; go_simp; (with_reducible rfl)
        rotate_left
        ·simp only [Act.put, qA, qB, qC, i64_w, i32_w]; rfl
        refine zp 5 (some 21) ?_ bA42 rfl rfl HT_ (by kernel_rfl) (fun _ _ _ h => h) (by rfl) ?_ ?_ ?_ ?_; rotate_left
        ·intro w'; go_simp; (with_reducible rfl)
        rotate_left
        ·simp only [Act.put, qA, qB, qC, i64_w, i32_w]; rfl
        refine zp 6 (some 22) ?_ bA48 rfl rfl HT_ (by kernel_rfl) (fun _ _ _ h => h) (by rfl) ?_ ?_ ?_ ?_; rotate_left
        ·intro w'; go_simp; (with_reducible rfl)
        rotate_left
        ·simp only [Act.put, qA, qB, qC, i64_w, i32_w]; rfl
        refine zp 8 (some 24) ?_ bA50 rfl rfl HT_ (by kernel_rfl) (fun _ _ _ h => h) (by rfl) ?_ ?_ ?_ ?_; rotate_left
        ·intro w'; go_simp; (with_reducible rfl)
        rotate_left
        ·simp only [Act.put, qA, qB, qC, i64_w, i32_w]; rfl
        refine zp 9 (some 25) ?_ bA51 rfl rfl HT_ (by kernel_rfl) (fun _ _ _ h => h) (by rfl) ?_ ?_ ?_ ?_; rotate_left
        ·intro w'; go_simp; (with_reducible rfl)
        rotate_left
        ·simp only [Act.put, qA, qB, qC, i64_w, i32_w]; rfl
        refine zp 10 (some 26) ?_ bA52 rfl rfl HT_ (by kernel_rfl) (fun _ _ _ h => h) (by rfl) ?_ ?_ ?_ ?_; rotate_left
        ·intro w'; go_simp; (with_reducible rfl)
        rotate_left
        ·simp only [Act.put, qA, qB, qC, i64_w, i32_w]; rfl
        refine zt 7 (some 23) ?_ bA68 rfl rfl HT_ HW_ (by kernel_rfl) (fun _ _ _ h => h) (by rfl) ?_ hHeld ?_ ?_ ?_; rotate_left
        ·rintro w' ⟨s0, s1⟩; go_simp; (with_reducible rfl)
        rotate_left
        ·simp only [Act.put, qA, qB, qC, i64_w, i32_w]; rfl
        refine zt 11 (some 27) ?_ bA72 rfl rfl HT_ HW_ (by kernel_rfl) (fun _ _ _ h => h) (by rfl) ?_ hHeld ?_ ?_ ?_; rotate_left
        ·rintro w' ⟨s0, s1⟩; go_simp; (with_reducible rfl)
        rotate_left
        ·simp only [Act.put, qA, qB, qC, i64_w, i32_w]; rfl
        refine zp 12 (some 28) ?_ bA75 rfl rfl HT_ (by kernel_rfl) (fun _ _ _ h => h) (by rfl) ?_ ?_ ?_ ?_; rotate_left
        ·intro w'; go_simp; (with_reducible rfl)
        rotate_left
        ·simp only [Act.put, qA, qB, qC, i64_w, i32_w]; rfl
        refine zp 13 (some 29) ?_ bA105 rfl rfl HT_ (by kernel_rfl) (fun _ _ _ h => h) (by rfl) ?_ ?_ ?_ ?_; rotate_left
        ·intro w'; go_simp; (with_reducible rfl)
        rotate_left
        ·simp only [Act.put, qA, qB, qC, i64_w, i32_w]; rfl
        refine done_ (done_of HT_.out (by kernel_rfl)) ?_
        try go_wp2
        go_roundg k2
        case measure => have := HK1.out; have := HK2.out; omega
        case rel => exact ⟨(ji7), (by first | rfl | (simp; done) | (simp only [← hji7] <;> (first | rfl | simp)) | (simp [*]; done)), H', ⟨by have := HK1.out; have := HK2.out; omega⟩, ⟨zR HO_3.out⟩, ⟨zB HB.out⟩⟩
       ·rw [if_neg c12] at H; have c12b0 : decide ((rd l0 x4_1) < (rd x3_1 (ji7))) = false := decide_eq_false c12; clear c12
        by_cases c14 : (rd x3_1 (ji7)) = (rd l0 x4_1)
        ·rw [if_pos c14] at H; have c14b0 : ((rd x3_1 (ji7)) == (rd l0 x4_1)) = true := beq_iff_eq.mpr c14; have c14b1 : ((rd x3_1 (ji7)) != (rd l0 x4_1)) = false := bne_eq_false_iff_eq.mpr c14; clear c14; have H' := Aside0.mk H; clear H
         try go_wp2
         replace HO_3 := Aside0.mk (Kd.R_drew HO_3.out); replace HB := Aside0.mk (below_drew1 HB.out); have p208 : 0 ≤ ((ji7) : Int) := of_decide_eq_true (by assumption); have q208 : (ji7) < (x3_1.length : Int) := of_decide_eq_true (by assumption); obtain ⟨ad208, e208, hx208_0⟩ := Kd.at_int (Kd.R_reads' HO_3.out).2.2 (ji7) p208 q208
         cases e208; replace p208 := eq_true p208; replace q208 := eq_true q208; have p209 : 0 ≤ (x4_1 : Int) := of_decide_eq_true (by assumption); have q209 : x4_1 < (l0.length : Int) := of_decide_eq_true (by assumption); obtain ⟨ad209, e209, hx209_0⟩ := Kd.at_int HR0.out x4_1 p209 q209; have hw209_0 := hx209_0
         cases e209; (try replace hx209_0 := (HB.out.cell (World.block_lt_of_cell? w _ hx209_0)).trans hx209_0); replace p209 := eq_true p209; replace q209 := eq_true q209; refine start_ (n := 14) (S := fun w' => w'.cell? (ad208.add ((ji7)).toNat) = some (.int .i64 (rd x3_1 (ji7))) ∧ w'.cell? (ad209.add (x4_1).toNat) = some (.int .i64 (rd l0 x4_1))) (ds := []) bA2 (by kernel_rfl) rfl rfl ⟨hx208_0, ((HB.out.cell (World.block_lt_of_cell? w _ hw209_0)).trans hw209_0)⟩ (fun hHeld => ?_); refine with_tabW spec_SortList.tab6 spec_SortList.bits6 (fun HT_ HW_ => ?_); generalize wr.drew = w15 at HO_3 HB hx208_0 hx209_0 hHeld ⊢; refine zp 0 (some 16) ?_ bA9 rfl rfl HT_ (by kernel_rfl) (fun _ _ _ h => h) (by rfl) ?_ ?_ ?_ ?_; rotate_left
         ·intro w'; go_simp; (with_reducible rfl)
         rotate_left
         ·simp only [Act.put, qA, qB, qC, i64_w, i32_w]; rfl
         refine zp 1 (some 17) ?_ bA15 rfl rfl HT_ (by kernel_rfl) (fun _ _ _ h => h) (by rfl) ?_ ?_ ?_ ?_; rotate_left
         ·intro w'; go_simp; (with_reducible rfl)
         rotate_left
         ·simp only [Act.put, qA, qB, qC, i64_w, i32_w]; rfl
         refine zp 2 (some 18) ?_ bA20 rfl rfl HT_ (by kernel_rfl) (fun _ _ _ h => h) (by rfl) ?_ ?_ ?_ ?_; rotate_left
         ·intro w'; go_simp; (with_reducible rfl)
         rotate_left
         ·simp only [Act.put, qA, qB, qC, i64_w, i32_w]; rfl
         refine zp 3 (some 19) ?_ bA29 rfl rfl HT_ (by kernel_rfl) (fun _ _ _ h => h) (by rfl) ?_ ?_ ?_ ?_; rotate_left
         ·intro w'; go_simp; (with_reducible rfl)
         rotate_left
         ·simp only [Act.put, qA, qB, qC, i64_w, i32_w]; rfl
         refine zp 4 (some 20) ?_ bA37 rfl rfl HT_ (by kernel_rfl) (fun _ _ _ h => h) (by rfl) ?_ ?_ ?_ ?_; rotate_left
         ·intro w'; go_simp; (with_reducible rfl)
         rotate_left
         ·simp only [Act.put, qA, qB, qC, i64_w, i32_w]; rfl
         refine zp 5 (some 21) ?_ bA42 rfl rfl HT_ (by kernel_rfl) (fun _ _ _ h => h) (by rfl) ?_ ?_ ?_ ?_; rotate_left
         ·intro w'; go_simp; (with_reducible rfl)
         rotate_left
         ·simp only [Act.put, qA, qB, qC, i64_w, i32_w]; rfl
         refine zp 6 (some 22) ?_ bA48 rfl rfl HT_ (by kernel_rfl) (fun _ _ _ h => h) (by rfl) ?_ ?_ ?_ ?_; rotate_left
         ·intro w'; go_simp; (with_reducible rfl)
         rotate_left
         ·simp only [Act.put, qA, qB, qC, i64_w, i32_w]; rfl
         refine zp 8 (some 24) ?_ bA50 rfl rfl HT_ (by kernel_rfl) (fun _ _ _ h => h) (by rfl) ?_ ?_ ?_ ?_; rotate_left
         ·intro w'; go_simp; (with_reducible rfl)
         rotate_left
         ·simp only [Act.put, qA, qB, qC, i64_w, i32_w]; rfl
         refine zp 9 (some 25) ?_ bA51 rfl rfl HT_ (by kernel_rfl) (fun _ _ _ h => h) (by rfl) ?_ ?_ ?_ ?_; rotate_left
         ·intro w'; go_simp; (with_reducible rfl)
         rotate_left
         ·simp only [Act.put, qA, qB, qC, i64_w, i32_w]; rfl
         refine zp 10 (some 26) ?_ bA52 rfl rfl HT_ (by kernel_rfl) (fun _ _ _ h => h) (by rfl) ?_ ?_ ?_ ?_; rotate_left
         ·intro w'; go_simp; (with_reducible rfl)
         rotate_left
         ·simp only [Act.put, qA, qB, qC, i64_w, i32_w]; rfl
         refine zt 7 (some 23) ?_ bA68 rfl rfl HT_ HW_ (by kernel_rfl) (fun _ _ _ h => h) (by rfl) ?_ hHeld ?_ ?_ ?_; rotate_left
         ·rintro w' ⟨s0, s1⟩; go_simp; (with_reducible rfl)
         rotate_left
         ·simp only [Act.put, qA, qB, qC, i64_w, i32_w]; rfl
         refine zt 11 (some 27) ?_ bA72 rfl rfl HT_ HW_ (by kernel_rfl) (fun _ _ _ h => h) (by rfl) ?_ hHeld ?_ ?_ ?_; rotate_left
         ·rintro w' ⟨s0, s1⟩; go_simp; (with_reducible rfl)
         rotate_left
         ·simp only [Act.put, qA, qB, qC, i64_w, i32_w]; rfl
         refine zp 12 (some 28) ?_ bA75 rfl rfl HT_ (by kernel_rfl) (fun _ _ _ h => h) (by rfl) ?_ ?_ ?_ ?_; rotate_left
         ·intro w'; go_simp; (with_reducible rfl)
         rotate_left
         ·simp only [Act.put, qA, qB, qC, i64_w, i32_w]; rfl
         refine zp 13 (some 29) ?_ bA105 rfl rfl HT_ (by kernel_rfl) (fun _ _ _ h => h) (by rfl) ?_ ?_ ?_ ?_; rotate_left
         ·intro w'; go_simp; (with_reducible rfl)
         rotate_left
         ·simp only [Act.put, qA, qB, qC, i64_w, i32_w]; rfl
         refine done_ (done_of HT_.out (by kernel_rfl)) ?_
         try go_wp2
         replace HO_3 := Aside0.mk (Kd.R_drew HO_3.out); replace HB := Aside0.mk (below_drew1 HB.out); have p210 : 0 ≤ ((ji7) : Int) := of_decide_eq_true (by assumption); have q210 : (ji7) < (x3_1.length : Int) := of_decide_eq_true (by assumption); obtain ⟨ad210, e210, hx210_0⟩ := Kd.at_int (Kd.R_reads' HO_3.out).2.2 (ji7) p210 q210; obtain rfl : ad208 = ad210 := (by injection e210); replace p210 := eq_true p210; replace q210 := eq_true q210; have p211 : 0 ≤ (x4_1 : Int) := of_decide_eq_true (by assumption); have q211 : x4_1 < (l0.length : Int) := of_decide_eq_true (by assumption); obtain ⟨ad211, e211, hx211_0⟩ := Kd.at_int HR0.out x4_1 p211 q211; have hw211_0 := hx211_0; obtain rfl : ad209 = ad211 := (by injection e211); (try replace hx211_0 := (HB.out.cell (World.block_lt_of_cell? w _ hx211_0)).trans hx211_0); replace p211 := eq_true p211; replace q211 := eq_true q211; refine start_ (n := 14) (S := fun w' => w'.cell? (ad208.add ((ji7)).toNat) = some (.int .i64 (rd x3_1 (ji7))) ∧ w'.cell? (ad209.add (x4_1).toNat) = some (.int .i64 (rd l0 x4_1))) (ds := []) bA2 (by kernel_rfl) rfl rfl ⟨hx210_0, ((HB.out.cell (World.block_lt_of_cell? w _ hw211_0)).trans hw211_0)⟩ (fun hHeld => ?_); refine with_tabW spec_SortList.tab8 spec_SortList.bits8 (fun HT_ HW_ => ?_); generalize w15.drew = w16 at HO_3 HB hx210_0 hx211_0 hHeld ⊢; refine zp 0 (some 32) ?_ bA9 rfl rfl HT_ (by kernel_rfl) (fun _ _ _ h => h) (by rfl) ?_ ?_ ?_ ?_; rotate_left
         ·intro w'; go_simp; (with_reducible rfl)
         rotate_left
         ·simp only [Act.put, qA, qB, qC, i64_w, i32_w]; rfl
         refine zp 1 (some 33) ?_ bA15 rfl rfl HT_ (by kernel_rfl) (fun _ _ _ h => h) (by rfl) ?_ ?_ ?_ ?_; rotate_left
         ·intro w'; go_simp; (with_reducible rfl)
         rotate_left
         ·simp only [Act.put, qA, qB, qC, i64_w, i32_w]; rfl
         refine zp 2 (some 34) ?_ bA20 rfl rfl HT_ (by kernel_rfl) (fun _ _ _ h => h) (by rfl) ?_ ?_ ?_ ?_; rotate_left
         ·intro w'; go_simp; (with_reducible rfl)
         rotate_left
         ·simp only [Act.put, qA, qB, qC, i64_w, i32_w]; rfl
         refine zp 3 (some 35) ?_ bA29 rfl rfl HT_ (by kernel_rfl) (fun _ _ _ h => h) (by rfl) ?_ ?_ ?_ ?_; rotate_left
         ·intro w'; go_simp; (with_reducible rfl)
         rotate_left
         ·simp only [Act.put, qA, qB, qC, i64_w, i32_w]; rfl
         refine zp 4 (some 36) ?_ bA37 rfl rfl HT_ (by kernel_rfl) (fun _ _ _ h => h) (by rfl) ?_ ?_ ?_ ?_; rotate_left
         ·intro w'; go_simp; (with_reducible rfl)
         rotate_left
         ·simp only [Act.put, qA, qB, qC, i64_w, i32_w]; rfl
         refine zp 5 (some 37) ?_ bA42 rfl rfl HT_ (by kernel_rfl) (fun _ _ _ h => h) (by rfl) ?_ ?_ ?_ ?_; rotate_left
         ·intro w'; go_simp; (with_reducible rfl)
         rotate_left
         ·simp only [Act.put, qA, qB, qC, i64_w, i32_w]; rfl
         refine zp 6 (some 38) ?_ bA48 rfl rfl HT_ (by kernel_rfl) (fun _ _ _ h => h) (by rfl) ?_ ?_ ?_ ?_; rotate_left
         ·intro w'; go_simp; (with_reducible rfl)
         rotate_left
         ·simp only [Act.put, qA, qB, qC, i64_w, i32_w]; rfl
         refine zp 8 (some 40) ?_ bA50 rfl rfl HT_ (by kernel_rfl) (fun _ _ _ h => h) (by rfl) ?_ ?_ ?_ ?_; rotate_left
         ·intro w'; go_simp; (with_reducible rfl)
         rotate_left
         ·simp only [Act.put, qA, qB, qC, i64_w, i32_w]; rfl
         refine zp 9 (some 41) ?_ bA51 rfl rfl HT_ (by kernel_rfl) (fun _ _ _ h => h) (by rfl) ?_ ?_ ?_ ?_; rotate_left
         ·intro w'; go_simp; (with_reducible rfl)
         rotate_left
         ·simp only [Act.put, qA, qB, qC, i64_w, i32_w]; rfl
         refine zp 10 (some 42) ?_ bA52 rfl rfl HT_ (by kernel_rfl) (fun _ _ _ h => h) (by rfl) ?_ ?_ ?_ ?_; rotate_left
         ·intro w'; go_simp; (with_reducible rfl)
         rotate_left
         ·simp only [Act.put, qA, qB, qC, i64_w, i32_w]; rfl
         refine zt 7 (some 39) ?_ bA68 rfl rfl HT_ HW_ (by kernel_rfl) (fun _ _ _ h => h) (by rfl) ?_ hHeld ?_ ?_ ?_; rotate_left
         ·rintro w' ⟨s0, s1⟩; go_simp; (with_reducible rfl)
         rotate_left
         ·simp only [Act.put, qA, qB, qC, i64_w, i32_w]; rfl
         refine zt 11 (some 43) ?_ bA72 rfl rfl HT_ HW_ (by kernel_rfl) (fun _ _ _ h => h) (by rfl) ?_ hHeld ?_ ?_ ?_; rotate_left
         ·rintro w' ⟨s0, s1⟩; go_simp; (with_reducible rfl)
         rotate_left
         ·simp only [Act.put, qA, qB, qC, i64_w, i32_w]; rfl
         refine zp 12 (some 44) ?_ bA75 rfl rfl HT_ (by kernel_rfl) (fun _ _ _ h => h) (by rfl) ?_ ?_ ?_ ?_; rotate_left
         ·intro w'; go_simp; (with_reducible rfl)
         rotate_left
         ·simp only [Act.put, qA, qB, qC, i64_w, i32_w]; rfl
         refine zp 13 (some 45) ?_ bA105 rfl rfl HT_ (by kernel_rfl) (fun _ _ _ h => h) (by rfl) ?_ ?_ ?_ ?_; rotate_left
         ·intro w'; go_simp; (with_reducible rfl)
         rotate_left
         ·simp only [Act.put, qA, qB, qC, i64_w, i32_w]; rfl
         refine done_ (done_of HT_.out (by kernel_rfl)) ?_
         try go_wp2
         go_roundg k2
         case measure => have := HK1.out; have := HK2.out; omega
         case rel => exact ⟨(x3_1), (wrap64 (x4_1 + 1)), (by first | rfl | (simp; done) | (simp [*]; done)), H', ⟨by have := HK1.out; have := HK2.out; omega⟩, ⟨zR HO_3.out⟩, ⟨zB HB.out⟩⟩
        ·rw [if_neg c14] at H; have c14b0 : ((rd x3_1 (ji7)) == (rd l0 x4_1)) = false := beq_eq_false_iff_ne.mpr c14; have c14b1 : ((rd x3_1 (ji7)) != (rd l0 x4_1)) = true := bne_iff_ne.mpr c14; obtain ⟨y212, hy212⟩ : ∃ y_ : List Int, y_ = (([] : List Int)) := ⟨_, rfl⟩; replace H : (if 0 ≤ x5_2 then (if x5_2 ≤ (x3_1.length : Int) then ((some (x3_1.drop (x5_2 : Int).toNat : List Int)).bind fun y215 => (if y212.length + y215.length < 17592186044416 then ((some (y212 ++ y215 : List Int)).bind fun y219 => ((some (x3_1.take (x5_2 : Int).toNat : List Int)).bind fun y222 => (if y222.length < 17592186044416 then ((some (y222 ++ [rd l0 x4_1] : List Int)).bind fun y226 => (if y226.length + y219.length < 17592186044416 then (spec_SortList.l0 k2 l0 (y226 ++ y219) (wrap64 (x4_1 + 1))) else (none))) else (none)))) else (none))) else (none)) else (none)) = some r := by first | (rw [hy212]; with_reducible exact H) | (have H2_ := (Option.bind_some _ _).symm.trans H; rw [hy212]; with_reducible exact H2_) | (have H2_ := (Option.bind_some _ _).symm.trans H; with_reducible exact H2_) | with_reducible exact H | (rw [hy212]; exact H) | exact H
         have Ny212 := Aside0.mk hy212; clear hy212; obtain ⟨c17, H⟩ := zi H; have c17b0 := eq_true c17; have c17b1 : decide (0 ≤ x5_2) = true := decide_eq_true c17; clear c17; obtain ⟨c18, H⟩ := zi H; have c18b0 := eq_true c18; have c18b1 : decide (x5_2 ≤ (x3_1.length : Int)) = true := decide_eq_true c18; clear c18; obtain ⟨y215, hy215⟩ : ∃ y_ : List Int, y_ = (x3_1.drop (x5_2 : Int).toNat) := ⟨_, rfl⟩; replace H : (if y212.length + y215.length < 17592186044416 then ((some (y212 ++ y215 : List Int)).bind fun y219 => ((some (x3_1.take (x5_2 : Int).toNat : List Int)).bind fun y222 => (if y222.length < 17592186044416 then ((some (y222 ++ [rd l0 x4_1] : List Int)).bind fun y226 => (if y226.length + y219.length < 17592186044416 then (spec_SortList.l0 k2 l0 (y226 ++ y219) (wrap64 (x4_1 + 1))) else (none))) else (none)))) else (none)) = some r := by first | (rw [hy215]; with_reducible exact H) | (have H2_ := (Option.bind_some _ _).symm.trans H; rw [hy215]; with_reducible exact H2_) | (have H2_ := (Option.bind_some _ _).symm.trans H; with_reducible exact H2_) | with_reducible exact H | (rw [hy215]; exact H) | exact H
         have Ny215 := Aside0.mk hy215; clear hy215; obtain ⟨c19, H⟩ := zi H; have LMc19 := Aside0.mk c19; clear c19; obtain ⟨y219, hy219⟩ : ∃ y_ : List Int, y_ = (y212 ++ y215) := ⟨_, rfl⟩; replace H : ((some (x3_1.take (x5_2 : Int).toNat : List Int)).bind fun y222 => (if y222.length < 17592186044416 then ((some (y222 ++ [rd l0 x4_1] : List Int)).bind fun y226 => (if y226.length + y219.length < 17592186044416 then (spec_SortList.l0 k2 l0 (y226 ++ y219) (wrap64 (x4_1 + 1))) else (none))) else (none))) = some r := by first | (rw [hy219]; with_reducible exact H) | (have H2_ := (Option.bind_some _ _).symm.trans H; rw [hy219]; with_reducible exact H2_) | (have H2_ := (Option.bind_some _ _).symm.trans H; with_reducible exact H2_) | with_reducible exact H | (rw [hy219]; exact H) | exact H
         have Ny219 := Aside0.mk hy219; clear hy219; have c20b0 := eq_true (of_decide_eq_true (by assumption) : x5_2 ≤ (x3_1.length : Int)); obtain ⟨y222, hy222⟩ : ∃ y_ : List Int, y_ = (x3_1.take (x5_2 : Int).toNat) := ⟨_, rfl⟩; replace H : (if y222.length < 17592186044416 then ((some (y222 ++ [rd l0 x4_1] : List Int)).bind fun y226 => (if y226.length + y219.length < 17592186044416 then (spec_SortList.l0 k2 l0 (y226 ++ y219) (wrap64 (x4_1 + 1))) else (none))) else (none)) = some r := by first | (rw [hy222]; with_reducible exact H) | (have H2_ := (Option.bind_some _ _).symm.trans H; rw [hy222]; with_reducible exact H2_) | (have H2_ := (Option.bind_some _ _).symm.trans H; with_reducible exact H2_) | with_reducible exact H | (rw [hy222]; exact H) | exact H
         have Ny222 := Aside0.mk hy222; clear hy222; obtain ⟨c21, H⟩ := zi H; have LMc21 := Aside0.mk c21; clear c21; obtain ⟨y226, hy226⟩ : ∃ y_ : List Int, y_ = (y222 ++ [rd l0 x4_1]) := ⟨_, rfl⟩; replace H : (if y226.length + y219.length < 17592186044416 then (spec_SortList.l0 k2 l0 (y226 ++ y219) (wrap64 (x4_1 + 1))) else (none)) = some r := by first | (rw [hy226]; with_reducible exact H) | (have H2_ := (Option.bind_some _ _).symm.trans H; rw [hy226]; with_reducible exact H2_) | (have H2_ := (Option.bind_some _ _).symm.trans H; with_reducible exact H2_) | with_reducible exact H | (rw [hy226]; exact H) | exact H
         have Ny226 := Aside0.mk hy226; clear hy226; obtain ⟨c22, H⟩ := zi H; have LMc22 := Aside0.mk c22; clear c22; obtain ⟨y229, hy229⟩ : ∃ y_ : List Int, y_ = (y226 ++ y219) := ⟨_, rfl⟩; replace H : (spec_SortList.l0 k2 l0 y229 (wrap64 (x4_1 + 1))) = some r := by first | (rw [hy229]; with_reducible exact H) | (have H2_ := (Option.bind_some _ _).symm.trans H; rw [hy229]; with_reducible exact H2_) | (have H2_ := (Option.bind_some _ _).symm.trans H; with_reducible exact H2_) | with_reducible exact H | (rw [hy229]; exact H) | exact H
         have Ny229 := Aside0.mk hy229; clear hy229; have H' := Aside0.mk H; clear H
         try go_wp2
         replace HO_3 := Aside0.mk (Kd.R_drew HO_3.out); replace HB := Aside0.mk (below_drew1 HB.out); have p208 : 0 ≤ ((ji7) : Int) := of_decide_eq_true (by assumption); have q208 : (ji7) < (x3_1.length : Int) := of_decide_eq_true (by assumption); obtain ⟨ad208, e208, hx208_0⟩ := Kd.at_int (Kd.R_reads' HO_3.out).2.2 (ji7) p208 q208
         cases e208; replace p208 := eq_true p208; replace q208 := eq_true q208; have p209 : 0 ≤ (x4_1 : Int) := of_decide_eq_true (by assumption); have q209 : x4_1 < (l0.length : Int) := of_decide_eq_true (by assumption); obtain ⟨ad209, e209, hx209_0⟩ := Kd.at_int HR0.out x4_1 p209 q209; have hw209_0 := hx209_0
         cases e209; (try replace hx209_0 := (HB.out.cell (World.block_lt_of_cell? w _ hx209_0)).trans hx209_0); replace p209 := eq_true p209; replace q209 := eq_true q209; refine start_ (n := 14) (S := fun w' => w'.cell? (ad208.add ((ji7)).toNat) = some (.int .i64 (rd x3_1 (ji7))) ∧ w'.cell? (ad209.add (x4_1).toNat) = some (.int .i64 (rd l0 x4_1))) (ds := []) bA2 (by kernel_rfl) rfl rfl ⟨hx208_0, ((HB.out.cell (World.block_lt_of_cell? w _ hw209_0)).trans hw209_0)⟩ (fun hHeld => ?_); refine with_tabW spec_SortList.tab6 spec_SortList.bits6 (fun HT_ HW_ => ?_); generalize wr.drew = w23 at HO_3 HB hx208_0 hx209_0 hHeld ⊢; refine zp 0 (some 16) ?_ bA9 rfl rfl HT_ (by kernel_rfl) (fun _ _ _ h => h) (by rfl) ?_ ?_ ?_ ?_; rotate_left
         ·intro w'; go_simp; (with_reducible rfl)
         rotate_left
         ·simp only [Act.put, qA, qB, qC, i64_w, i32_w]; rfl
         refine zp 1 (some 17) ?_ bA15 rfl rfl HT_ (by kernel_rfl) (fun _ _ _ h => h) (by rfl) ?_ ?_ ?_ ?_; rotate_left
         ·intro w'; go_simp; (with_reducible rfl)
         rotate_left
         ·simp only [Act.put, qA, qB, qC, i64_w, i32_w]; rfl
         refine zp 2 (some 18) ?_ bA20 rfl rfl HT_ (by kernel_rfl) (fun _ _ _ h => h) (by rfl) ?_ ?_ ?_ ?_; rotate_left
         ·intro w'; go_simp; (with_reducible rfl)
         rotate_left
         ·simp only [Act.put, qA, qB, qC, i64_w, i32_w]; rfl
         refine zp 3 (some 19) ?_ bA29 rfl rfl HT_ (by kernel_rfl) (fun _ _ _ h => h) (by rfl) ?_ ?_ ?_ ?_; rotate_left
         ·intro w'; go_simp; (with_reducible rfl)
         rotate_left
         ·simp only [Act.put, qA, qB, qC, i64_w, i32_w]; rfl
         refine zp 4 (some 20) ?_ bA37 rfl rfl HT_ (by kernel_rfl) (fun _ _ _ h => h) (by rfl) ?_ ?_ ?_ ?_; rotate_left
         ·intro w'; go_simp; (with_reducible rfl)
         rotate_left
         ·simp only [Act.put, qA, qB, qC, i64_w, i32_w]; rfl
         refine zp 5 (some 21) ?_ bA42 rfl rfl HT_ (by kernel_rfl) (fun _ _ _ h => h) (by rfl) ?_ ?_ ?_ ?_; rotate_left
         ·intro w'; go_simp; (with_reducible rfl)
         rotate_left
         ·simp only [Act.put, qA, qB, qC, i64_w, i32_w]; rfl
         refine zp 6 (some 22) ?_ bA48 rfl rfl HT_ (by kernel_rfl) (fun _ _ _ h => h) (by rfl) ?_ ?_ ?_ ?_; rotate_left
         ·intro w'; go_simp; (with_reducible rfl)
         rotate_left
         ·simp only [Act.put, qA, qB, qC, i64_w, i32_w]; rfl
         refine zp 8 (some 24) ?_ bA50 rfl rfl HT_ (by kernel_rfl) (fun _ _ _ h => h) (by rfl) ?_ ?_ ?_ ?_; rotate_left
         ·intro w'; go_simp; (with_reducible rfl)
         rotate_left
         ·simp only [Act.put, qA, qB, qC, i64_w, i32_w]; rfl
         refine zp 9 (some 25) ?_ bA51 rfl rfl HT_ (by kernel_rfl) (fun _ _ _ h => h) (by rfl) ?_ ?_ ?_ ?_; rotate_left
         ·intro w'; go_simp; (with_reducible rfl)
         rotate_left
         ·simp only [Act.put, qA, qB, qC, i64_w, i32_w]; rfl
         refine zp 10 (some 26) ?_ bA52 rfl rfl HT_ (by kernel_rfl) (fun _ _ _ h => h) (by rfl) ?_ ?_ ?_ ?_; rotate_left
         ·intro w'; go_simp; (with_reducible rfl)
         rotate_left
         ·simp only [Act.put, qA, qB, qC, i64_w, i32_w]; rfl
         refine zt 7 (some 23) ?_ bA68 rfl rfl HT_ HW_ (by kernel_rfl) (fun _ _ _ h => h) (by rfl) ?_ hHeld ?_ ?_ ?_; rotate_left
         ·rintro w' ⟨s0, s1⟩; go_simp; (with_reducible rfl)
         rotate_left
         ·simp only [Act.put, qA, qB, qC, i64_w, i32_w]; rfl
         refine zt 11 (some 27) ?_ bA72 rfl rfl HT_ HW_ (by kernel_rfl) (fun _ _ _ h => h) (by rfl) ?_ hHeld ?_ ?_ ?_; rotate_left
         ·rintro w' ⟨s0, s1⟩; go_simp; (with_reducible rfl)
         rotate_left
         ·simp only [Act.put, qA, qB, qC, i64_w, i32_w]; rfl
         refine zp 12 (some 28) ?_ bA75 rfl rfl HT_ (by kernel_rfl) (fun _ _ _ h => h) (by rfl) ?_ ?_ ?_ ?_; rotate_left
         ·intro w'; go_simp; (with_reducible rfl)
         rotate_left
         ·simp only [Act.put, qA, qB, qC, i64_w, i32_w]; rfl
         refine zp 13 (some 29) ?_ bA105 rfl rfl HT_ (by kernel_rfl) (fun _ _ _ h => h) (by rfl) ?_ ?_ ?_ ?_; rotate_left
         ·intro w'; go_simp; (with_reducible rfl)
         rotate_left
         ·simp only [Act.put, qA, qB, qC, i64_w, i32_w]; rfl
         refine done_ (done_of HT_.out (by kernel_rfl)) ?_
         try go_wp2
         replace HO_3 := Aside0.mk (Kd.R_drew HO_3.out); replace HB := Aside0.mk (below_drew1 HB.out); have p210 : 0 ≤ ((ji7) : Int) := of_decide_eq_true (by assumption); have q210 : (ji7) < (x3_1.length : Int) := of_decide_eq_true (by assumption); obtain ⟨ad210, e210, hx210_0⟩ := Kd.at_int (Kd.R_reads' HO_3.out).2.2 (ji7) p210 q210; obtain rfl : ad208 = ad210 := (by injection e210); replace p210 := eq_true p210; replace q210 := eq_true q210; have p211 : 0 ≤ (x4_1 : Int) := of_decide_eq_true (by assumption); have q211 : x4_1 < (l0.length : Int) := of_decide_eq_true (by assumption); obtain ⟨ad211, e211, hx211_0⟩ := Kd.at_int HR0.out x4_1 p211 q211; have hw211_0 := hx211_0; obtain rfl : ad209 = ad211 := (by injection e211); (try replace hx211_0 := (HB.out.cell (World.block_lt_of_cell? w _ hx211_0)).trans hx211_0); replace p211 := eq_true p211; replace q211 := eq_true q211; refine start_ (n := 14) (S := fun w' => w'.cell? (ad208.add ((ji7)).toNat) = some (.int .i64 (rd x3_1 (ji7))) ∧ w'.cell? (ad209.add (x4_1).toNat) = some (.int .i64 (rd l0 x4_1))) (ds := []) bA2 (by kernel_rfl) rfl rfl ⟨hx210_0, ((HB.out.cell (World.block_lt_of_cell? w _ hw211_0)).trans hw211_0)⟩ (fun hHeld => ?_); refine with_tabW spec_SortList.tab8 spec_SortList.bits8 (fun HT_ HW_ => ?_); generalize w23.drew = w24 at HO_3 HB hx210_0 hx211_0 hHeld ⊢; refine zp 0 (some 32) ?_ bA9 rfl rfl HT_ (by kernel_rfl) (fun _ _ _ h => h) (by rfl) ?_ ?_ ?_ ?_; rotate_left
         ·intro w'; go_simp; (with_reducible rfl)
         rotate_left
         ·simp only [Act.put, qA, qB, qC, i64_w, i32_w]; rfl
         refine zp 1 (some 33) ?_ bA15 rfl rfl HT_ (by kernel_rfl) (fun _ _ _ h => h) (by rfl) ?_ ?_ ?_ ?_; rotate_left
         ·intro w'; go_simp; (with_reducible rfl)
         rotate_left
         ·simp only [Act.put, qA, qB, qC, i64_w, i32_w]; rfl
         refine zp 2 (some 34) ?_ bA20 rfl rfl HT_ (by kernel_rfl) (fun _ _ _ h => h) (by rfl) ?_ ?_ ?_ ?_; rotate_left
         ·intro w'; go_simp; (with_reducible rfl)
         rotate_left
         ·simp only [Act.put, qA, qB, qC, i64_w, i32_w]; rfl
         refine zp 3 (some 35) ?_ bA29 rfl rfl HT_ (by kernel_rfl) (fun _ _ _ h => h) (by rfl) ?_ ?_ ?_ ?_; rotate_left
         ·intro w'; go_simp; (with_reducible rfl)
         rotate_left
         ·simp only [Act.put, qA, qB, qC, i64_w, i32_w]; rfl
         refine zp 4 (some 36) ?_ bA37 rfl rfl HT_ (by kernel_rfl) (fun _ _ _ h => h) (by rfl) ?_ ?_ ?_ ?_; rotate_left
         ·intro w'; go_simp; (with_reducible rfl)
         rotate_left
         ·simp only [Act.put, qA, qB, qC, i64_w, i32_w]; rfl
         refine zp 5 (some 37) ?_ bA42 rfl rfl HT_ (by kernel_rfl) (fun _ _ _ h => h) (by rfl) ?_ ?_ ?_ ?_; rotate_left
         ·intro w'; go_simp; (with_reducible rfl)
         rotate_left
         ·simp only [Act.put, qA, qB, qC, i64_w, i32_w]; rfl
         refine zp 6 (some 38) ?_ bA48 rfl rfl HT_ (by kernel_rfl) (fun _ _ _ h => h) (by rfl) ?_ ?_ ?_ ?_; rotate_left
         ·intro w'; go_simp; (with_reducible rfl)
         rotate_left
         ·simp only [Act.put, qA, qB, qC, i64_w, i32_w]; rfl
         refine zp 8 (some 40) ?_ bA50 rfl rfl HT_ (by kernel_rfl) (fun _ _ _ h => h) (by rfl) ?_ ?_ ?_ ?_; rotate_left
         ·intro w'; go_simp; (with_reducible rfl)
         rotate_left
         ·simp only [Act.put, qA, qB, qC, i64_w, i32_w]; rfl
         refine zp 9 (some 41) ?_ bA51 rfl rfl HT_ (by kernel_rfl) (fun _ _ _ h => h) (by rfl) ?_ ?_ ?_ ?_; rotate_left
         ·intro w'; go_simp; (with_reducible rfl)
         rotate_left
         ·simp only [Act.put, qA, qB, qC, i64_w, i32_w]; rfl
         refine zp 10 (some 42) ?_ bA52 rfl rfl HT_ (by kernel_rfl) (fun _ _ _ h => h) (by rfl) ?_ ?_ ?_ ?_; rotate_left
         ·intro w'; go_simp; (with_reducible rfl)
         rotate_left
         ·simp only [Act.put, qA, qB, qC, i64_w, i32_w]; rfl
         refine zt 7 (some 39) ?_ bA68 rfl rfl HT_ HW_ (by kernel_rfl) (fun _ _ _ h => h) (by rfl) ?_ hHeld ?_ ?_ ?_; rotate_left
         ·rintro w' ⟨s0, s1⟩; go_simp; (with_reducible rfl)
         rotate_left
         ·simp only [Act.put, qA, qB, qC, i64_w, i32_w]; rfl
         refine zt 11 (some 43) ?_ bA72 rfl rfl HT_ HW_ (by kernel_rfl) (fun _ _ _ h => h) (by rfl) ?_ hHeld ?_ ?_ ?_; rotate_left
         ·rintro w' ⟨s0, s1⟩; go_simp; (with_reducible rfl)
         rotate_left
         ·simp only [Act.put, qA, qB, qC, i64_w, i32_w]; rfl
         refine zp 12 (some 44) ?_ bA75 rfl rfl HT_ (by kernel_rfl) (fun _ _ _ h => h) (by rfl) ?_ ?_ ?_ ?_; rotate_left
         ·intro w'; go_simp; (with_reducible rfl)
         rotate_left
         ·simp only [Act.put, qA, qB, qC, i64_w, i32_w]; rfl
         refine zp 13 (some 45) ?_ bA105 rfl rfl HT_ (by kernel_rfl) (fun _ _ _ h => h) (by rfl) ?_ ?_ ?_ ?_; rotate_left
         ·intro w'; go_simp; (with_reducible rfl)
         rotate_left
         ·simp only [Act.put, qA, qB, qC, i64_w, i32_w]; rfl
         refine done_ (done_of HT_.out (by kernel_rfl)) ?_
         try go_wp2_with (first | ((with_reducible refine gate_dst (N := 46) rfl ?_); refine Kd.R_lit (Kd.int .i64) _ 3 ?hg (N := 46) ?hd (xs := ([] : List Int)) (inner := []) (ok := fun _ => True) (okp := fun _ => True) ?hr ?hp (fun _ hk => hk) trivial (Below.refl _ _) (Nat.le_refl _) (by simp) ?_; (case hd => rfl); (case hg => rfl); (case hr => first | (go_simp; done) | (go_simp; rfl)); (case hp => exact (Reps.none _ _)); intro v213 w25 ho26 hb hg_ hnew_; clear hg_ hnew_; (first | rw [← Ny212.out] at ho26 | (simp only [Int.reduceToNat] at ho26; rw [← Ny212.out] at ho26)); have n0_ := Aside0.mk (Kd.R_elder' (zR HO_3.out) (Kd.R_base ho26) hb); have n1_ := Aside0.mk (Kd.R_lower (Kd.R_new' ho26 (Kd.R_lt (zR HO_3.out))) (zS HB.out)); have n2_ := Aside0.mk (below_step (zB HB.out) hb); clear HO_3; clear HB; have HO_3 := n0_; have HO214 := n1_; have HB := n2_; clear n0_ n1_ n2_; clear hb ho26; have q27 : (x5_2 : Int) ≤ ((x3_1.length : Int) : Int) := of_decide_eq_true (by assumption); obtain ⟨i027, hi027, _, hsz27, _⟩ := info_parts info3; have hroom27 : x3_1.length ≤ co5 := (Kd.R_reads' HO_3.out).2.1; have hC27 : Kd.C (Kd.int .i64) _ (some ad208) x3_1.length x3_1 := (Kd.R_reads' HO_3.out).2.2; have q027 : (0 : Int) ≤ (x5_2 : Int) := of_decide_eq_true (by assumption); have hcut27 := cut_from (P := Try.prog) 33 3 .i64 Try.underlying33 hi027 1 hsz27 (some ad208) x3_1.length co5 x5_2 q027 q27; have hr27 := Kd.C_drop (m := (x5_2 : Int).toNat) (c := co5) hC27 (by omega) hroom27; obtain ⟨A27, hA27⟩ : ∃ A1, A1 = (if co5 = (x5_2 : Int).toNat then (some ad208) else ((some ad208) : Option Addr).map (·.add ((x5_2 : Int).toNat * 1))) := ⟨_, rfl⟩; obtain ⟨c27, hc27⟩ : ∃ c1, c1 = co5 - (x5_2 : Int).toNat := ⟨_, rfl⟩; have hy27 : y215.length = x3_1.length - (x5_2 : Int).toNat := (by rw [Ny215.out, List.length_drop] <;> omega); rw [show (x3_1).drop (x5_2 : Int).toNat = y215 from Ny215.out.symm] at hr27; replace hr27 : Kd.C (Kd.int .i64) _ A27 y215.length y215 := (by rw [hA27]; exact hr27); rw [← hy27, ← hA27, ← hc27] at hcut27; have HR218 := Aside0.mk hr27; have HC218 := Aside0.mk (show y215.length ≤ c27 from by rw [hy27, hc27]; exact Nat.sub_le_sub_right hroom27 _); clear hr27 hC27 hroom27 hi027 hsz27 hc27; have KY27 := Aside0.mk hy27; have KA27 := Aside0.mk hA27; clear hy27 hA27; have KL27 := Aside0.mk (show (x5_2 : Int).toNat ≤ x3_1.length from by omega); replace q27 := eq_true q27) | ((with_reducible refine gate_builtin (b := .append) (xs := #[.tmp 46, .tmp 49]) rfl ?_); at_builtin; refine Kd.R_append_rows (Kd.int .i64) (w0 := w) w.heap.size rfl (.tmp 46) (.tmp 49) 33 3 (.int .i64 0) 8 rfl Try.underlying33 info3 rfl (by decide) (by omega) v213 y212 y215 _ _ _ (fun k_ => some k_ ≠ (.slice (some ad208) x3_1.length co5 : Value).ownBlock) (fun _ => False) rfl rfl ?aO ?aR (fun _ _ h => h) (fun _ h => h.elim) ?aF ?aB ?aS ?aL ?_; (case aR => repeat (first | exact (zC HR218.out) | (with_reducible refine Kd.C_alloc ?_ _) | (with_reducible refine Kd.C_drewN ?_ _) | (with_reducible refine Kd.C_drew ?_))); (case aB => exact (zB HB.out)); (case aF => exact (fun k_ hk => Kd.fresh' (Kd.R_lt (zR HO_3.out)) k_ hk)); (case aO => exact (zR (Kd.R_mono HO214.out (fun _ hk => hk.2)))); (case aS => exact (zS HB.out)); (case aL => have := LMc19.out; omega); intro v220 w28 ho hb hg hat; rw [← Ny219.out] at ho; have n0_ := Aside0.mk (Kd.R_after (ok := (fun _ => True)) (zR HO_3.out) hg hat); have n1_ := Aside0.mk (hb); have n2_ := Aside0.mk ((show Kd.C (Kd.int .i64) w28 A27 y215.length y215 from by rw [Ny215.out, KA27.out]; exact Kd.C_drop (m := (x5_2 : Int).toNat) (c := co5) ((Kd.R_reads' (Kd.R_after (ok := (fun _ => True)) (zR HO_3.out) hg hat)).2.2) KL27.out ((Kd.R_reads' (Kd.R_after (ok := (fun _ => True)) (zR HO_3.out) hg hat)).2.1))); have n3_ := Aside0.mk (ho); clear HO_3; clear HB; clear HR218; clear HO214; have HO_3 := n0_; have HB := n1_; have HR218 := n2_; have HO221 := n3_; clear n0_ n1_ n2_ n3_; clear ho hb hg hat))
         replace HO_3 := Aside0.mk (Kd.R_drew HO_3.out); replace HO221 := Aside0.mk (Kd.R_drew HO221.out); replace HR218 := Aside0.mk (Kd.C_drew HR218.out); replace HB := Aside0.mk (below_drew1 HB.out); have q30 : (x5_2 : Int) ≤ ((x3_1.length : Int) : Int) := of_decide_eq_true (by assumption); obtain ⟨i030, hi030, _, hsz30, _⟩ := info_parts info3; have hcut30 := cut_to (P := Try.prog) 33 3 .i64 Try.underlying33 hi030 (some ad208) x3_1.length co5 x5_2 (of_decide_eq_true (by assumption)) q30 (Kd.R_reads' HO_3.out).2.1; have hr30 := Kd.R_take (m := (x5_2 : Int).toNat) HO_3.out (by omega); have hy30 : y222.length = (x5_2 : Int).toNat := (by rw [Ny222.out, List.length_take]; omega); rw [← Ny222.out] at hr30; rw [← hy30] at hr30 hcut30; clear hy30 hi030 hsz30 HO_3; have HO224 := Aside0.mk hr30; clear hr30; replace q30 := eq_true q30; have p225 : 0 ≤ (x4_1 : Int) := of_decide_eq_true (by assumption); have q225 : x4_1 < (l0.length : Int) := of_decide_eq_true (by assumption); obtain ⟨ad225, e225, hx225_0⟩ := Kd.at_int HR0.out x4_1 p225 q225; have hw225_0 := hx225_0; obtain rfl : ad209 = ad225 := (by injection e225); (try replace hx225_0 := (HB.out.cell (World.block_lt_of_cell? w _ hx225_0)).trans hx225_0); replace p225 := eq_true p225; replace q225 := eq_true q225; refine start_ (n := 12) (S := fun w' => w'.cell? (ad209.add (x4_1).toNat) = some (.int .i64 (rd l0 x4_1))) (ds := []) bA4 (by kernel_rfl) rfl rfl (((HB.out.cell (World.block_lt_of_cell? w _ hw225_0)).trans hw225_0)) (fun hHeld => ?_); refine with_tabW spec_SortList.tab10 spec_SortList.bits10 (fun HT_ HW_ => ?_); generalize w28.drew = w29 at HO_3 HO221 HR218 HB HO224 hx225_0 hHeld ⊢; refine zp 0 (some 51) ?_ bA11 rfl rfl HT_ (by kernel_rfl) (fun _ _ _ h => h) (by rfl) ?_ ?_ ?_ ?_; rotate_left
         ·intro w'; go_simp; (with_reducible rfl)
         rotate_left
         ·simp only [Act.put, qA, qB, qC, i64_w, i32_w]; rfl
         refine zp 1 (some 52) ?_ bA17 rfl rfl HT_ (by kernel_rfl) (fun _ _ _ h => h) (by rfl) ?_ ?_ ?_ ?_; rotate_left
         ·intro w'; go_simp; (with_reducible rfl)
         rotate_left
         ·simp only [Act.put, qA, qB, qC, i64_w, i32_w]; rfl
         refine zp 2 (some 53) ?_ bA22 rfl rfl HT_ (by kernel_rfl) (fun _ _ _ h => h) (by rfl) ?_ ?_ ?_ ?_; rotate_left
         ·intro w'; go_simp; (with_reducible rfl)
         rotate_left
         ·simp only [Act.put, qA, qB, qC, i64_w, i32_w]; rfl
         refine zp 3 (some 54) ?_ bA30 rfl rfl HT_ (by kernel_rfl) (fun _ _ _ h => h) (by rfl) ?_ ?_ ?_ ?_; rotate_left
         ·intro w'; go_simp; (with_reducible rfl)
         rotate_left
         ·simp only [Act.put, qA, qB, qC, i64_w, i32_w]; rfl
         refine zp 4 (some 55) ?_ bA38 rfl rfl HT_ (by kernel_rfl) (fun _ _ _ h => h) (by rfl) ?_ ?_ ?_ ?_; rotate_left
         ·intro w'; go_simp; (with_reducible rfl)
         rotate_left
         ·simp only [Act.put, qA, qB, qC, i64_w, i32_w]; rfl
         refine zp 5 (some 56) ?_ bA43 rfl rfl HT_ (by kernel_rfl) (fun _ _ _ h => h) (by rfl) ?_ ?_ ?_ ?_; rotate_left
         ·intro w'; go_simp; (with_reducible rfl)
         rotate_left
         ·simp only [Act.put, qA, qB, qC, i64_w, i32_w]; rfl
         refine zp 9 (some 60) ?_ bA44 rfl rfl HT_ (by kernel_rfl) (fun _ _ _ h => h) (by rfl) ?_ ?_ ?_ ?_; rotate_left
         ·intro w'; go_simp; (with_reducible rfl)
         rotate_left
         ·simp only [Act.put, qA, qB, qC, i64_w, i32_w]; rfl
         refine zt 6 (some 57) ?_ bA49 rfl rfl HT_ HW_ (by kernel_rfl) (fun _ _ _ h => h) (by rfl) ?_ hHeld ?_ ?_ ?_; rotate_left
         ·intro w' s0; go_simp; (with_reducible rfl)
         rotate_left
         ·simp only [Act.put, qA, qB, qC, i64_w, i32_w]; rfl
         refine one_ (i := 7) (N := some 58) bA57 rfl rfl (one_of HT_.out (by kernel_rfl)) (by decide) (fun K hK => ?_); refine value_ (w1 := ?_) (v := ?_) (by rfl) rfl ?_ ?_; rotate_left 2
         ·go_simp; constructor
          ·rfl
          ·rfl
         refine hK.out _ _ ((World.cell?_alloc_lt _ _ _ (World.block_lt_of_cell? _ _ (((HB.out.cell (World.block_lt_of_cell? w _ hw225_0)).trans hw225_0)))).trans (((HB.out.cell (World.block_lt_of_cell? w _ hw225_0)).trans hw225_0))) (fun hHeld => ?_); clear hK K; refine norm_ (a' := ?_) ?_ ?_; rotate_left
         ·show Act.put _ (some 58) _ = _; simp only [Act.put, qA, qB, qC, i64_w, i32_w]; rfl
         refine one_ (i := 8) (N := some 59) bA65 rfl rfl (one_of HT_.out (by kernel_rfl)) (by decide) (fun K hK => ?_); refine Kd.R_append_step (Kd.int .i64) (w0 := w) w.heap.size (by rfl) (.tmp 53) (.tmp 58) 33 3 (.int .i64 0) 8 rfl Try.underlying33 info3 rfl (by decide) (by omega) (.slice (some ad208) y222.length co5) y222 (rd l0 x4_1) [.int .i64 (rd l0 x4_1)] (fun k_ => some k_ ≠ (v220 : Value).ownBlock) (fun _ => False) rfl rfl ?aP (fun _ hk => hk.elim) ?aF ?aO ?aB ?aS ?aL ?_; (case aP => exact rfl); (case aB => exact (zB HB.out)); (case aF => exact (fun k_ hk => Kd.fresh' (Kd.R_lt (zR HO221.out)) k_ hk)); (case aO => exact (zR (Kd.R_mono HO224.out (fun _ hk => hk.2)))); (case aS => exact (zS HB.out)); (case aL => have := LMc21.out; omega); intro v227 w31 ho hb hg hat; rw [← Ny226.out] at ho; replace HO221 := Aside0.mk (Kd.R_after (ok := (fun _ => True)) (zR (Kd.R_mono HO221.out (fun _ hk => ⟨trivial, by first | exact hk | (rw [qO] at hk ⊢; exact hk)⟩))) hg hat); replace HB := Aside0.mk (hb); have HO228 := Aside0.mk (ho); clear HO224; clear ho hb hg hat; obtain ⟨Ao33, co33, eo33⟩ := Kd.R_slice HO221.out; (first | subst eo33 | (injection eo33 with f1_ f2_ f3_; have f4_ := f1_.symm; have f5_ := f3_.symm; clear f1_ f2_ f3_; subst f4_; subst f5_)); refine hK.out _ _ (((HB.out.cell (World.block_lt_of_cell? w _ hw225_0)).trans hw225_0)) (fun hHeld => ?_); clear hK K; refine norm_ (a' := ?_) ?_ ?_; rotate_left
         ·show Act.put _ (some 59) _ = _; simp only [Act.put, qA, qB, qC, i64_w, i32_w]; rfl
         refine one_ (i := 10) (N := some 61) bA70 rfl rfl (one_of HT_.out (by kernel_rfl)) (by decide) (fun K hK => ?_); refine Kd.R_append_rows_step (Kd.int .i64) (w0 := w) w.heap.size (by rfl) (.tmp 59) (.tmp 60) 33 3 (.int .i64 0) 8 rfl Try.underlying33 info3 rfl (by decide) (by omega) v227 y226 y219 _ _ _ (fun k_ => some k_ ≠ (.slice Ao33 y219.length co33 : Value).ownBlock) (fun _ => False) rfl rfl ?aO ?aR (fun _ _ h => h) (fun _ h => h.elim) ?aF ?aB ?aS ?aL ?_; (case aR => repeat (first | exact (Kd.R_reads' HO221.out).2.2 | (with_reducible refine Kd.C_alloc ?_ _) | (with_reducible refine Kd.C_drewN ?_ _) | (with_reducible refine Kd.C_drew ?_))); (case aB => exact (zB HB.out)); (case aF => exact (fun k_ hk => Kd.fresh' (Kd.R_lt (zR HO221.out)) k_ hk)); (case aO => exact (zR HO228.out)); (case aS => exact (zS HB.out)); (case aL => have := LMc22.out; omega); intro v230 w32 ho hb hg hat; rw [← Ny229.out] at ho; replace HO221 := Aside0.mk (Kd.R_after (ok := (fun _ => True)) (zR HO221.out) hg hat); replace HB := Aside0.mk (hb); have HO231 := Aside0.mk (ho); clear HO228; clear ho hb hg hat; refine hK.out _ _ (((HB.out.cell (World.block_lt_of_cell? w _ hw225_0)).trans hw225_0)) (fun hHeld => ?_); clear hK K; refine norm_ (a' := ?_) ?_ ?_; rotate_left
         ·show Act.put _ (some 61) _ = _; simp only [Act.put, qA, qB, qC, i64_w, i32_w]; rfl
         refine zp 11 (some 3) ?_ bA107 rfl rfl HT_ (by kernel_rfl) (fun _ _ _ h => h) (by rfl) ?_ ?_ ?_ ?_; rotate_left
         ·intro w'; go_simp; (with_reducible rfl)
         rotate_left
         ·simp only [Act.put, qA, qB, qC, i64_w, i32_w]; rfl
         refine done_ (done_of HT_.out (by kernel_rfl)) ?_
         try go_wp2
         go_roundg k2
         case measure => have := HK1.out; have := HK2.out; omega
         case rel => exact ⟨(y229), (wrap64 (x4_1 + 1)), (by first | rfl | (simp; done) | (simp [*]; done)), H', ⟨by have := HK1.out; have := HK2.out; omega⟩, ⟨zR (Kd.R_mono HO231.out (fun _ hk => trivial))⟩, ⟨zB HB.out⟩⟩
      ·rw [if_neg c6] at H; have c6b0 : decide (0 < x5_2) = false := decide_eq_false c6; clear c6; obtain ⟨y232, hy232⟩ : ∃ y_ : List Int, y_ = (([] : List Int)) := ⟨_, rfl⟩; replace H : (if 0 ≤ x5_2 then (if x5_2 ≤ (x3_1.length : Int) then ((some (x3_1.drop (x5_2 : Int).toNat : List Int)).bind fun y235 => (if y232.length + y235.length < 17592186044416 then ((some (y232 ++ y235 : List Int)).bind fun y239 => ((some (x3_1.take (x5_2 : Int).toNat : List Int)).bind fun y242 => (if 0 ≤ x4_1 then (if x4_1 < (l0.length : Int) then (if y242.length < 17592186044416 then ((some (y242 ++ [rd l0 x4_1] : List Int)).bind fun y246 => (if y246.length + y239.length < 17592186044416 then (spec_SortList.l0 k2 l0 (y246 ++ y239) (wrap64 (x4_1 + 1))) else (none))) else (none)) else (none)) else (none)))) else (none))) else (none)) else (none)) = some r := by first | (rw [hy232]; with_reducible exact H) | (have H2_ := (Option.bind_some _ _).symm.trans H; rw [hy232]; with_reducible exact H2_) | (have H2_ := (Option.bind_some _ _).symm.trans H; with_reducible exact H2_) | with_reducible exact H | (rw [hy232]; exact H) | exact H
       have Ny232 := Aside0.mk hy232; clear hy232; obtain ⟨c34, H⟩ := zi H; have c34b0 := eq_true c34; have c34b1 : decide (0 ≤ x5_2) = true := decide_eq_true c34; clear c34; obtain ⟨c35, H⟩ := zi H; have c35b0 := eq_true c35; have c35b1 : decide (x5_2 ≤ (x3_1.length : Int)) = true := decide_eq_true c35; clear c35; obtain ⟨y235, hy235⟩ : ∃ y_ : List Int, y_ = (x3_1.drop (x5_2 : Int).toNat) := ⟨_, rfl⟩; replace H : (if y232.length + y235.length < 17592186044416 then ((some (y232 ++ y235 : List Int)).bind fun y239 => ((some (x3_1.take (x5_2 : Int).toNat : List Int)).bind fun y242 => (if 0 ≤ x4_1 then (if x4_1 < (l0.length : Int) then (if y242.length < 17592186044416 then ((some (y242 ++ [rd l0 x4_1] : List Int)).bind fun y246 => (if y246.length + y239.length < 17592186044416 then (spec_SortList.l0 k2 l0 (y246 ++ y239) (wrap64 (x4_1 + 1))) else (none))) else (none)) else (none)) else (none)))) else (none)) = some r := by first | (rw [hy235]; with_reducible exact H) | (have H2_ := (Option.bind_some _ _).symm.trans H; rw [hy235]; with_reducible exact H2_) | (have H2_ := (Option.bind_some _ _).symm.trans H; with_reducible exact H2_) | with_reducible exact H | (rw [hy235]; exact H) | exact H
       have Ny235 := Aside0.mk hy235; clear hy235; obtain ⟨c36, H⟩ := zi H; have LMc36 := Aside0.mk c36; clear c36; obtain ⟨y239, hy239⟩ : ∃ y_ : List Int, y_ = (y232 ++ y235) := ⟨_, rfl⟩; replace H : ((some (x3_1.take (x5_2 : Int).toNat : List Int)).bind fun y242 => (if 0 ≤ x4_1 then (if x4_1 < (l0.length : Int) then (if y242.length < 17592186044416 then ((some (y242 ++ [rd l0 x4_1] : List Int)).bind fun y246 => (if y246.length + y239.length < 17592186044416 then (spec_SortList.l0 k2 l0 (y246 ++ y239) (wrap64 (x4_1 + 1))) else (none))) else (none)) else (none)) else (none))) = some r := by first | (rw [hy239]; with_reducible exact H) | (have H2_ := (Option.bind_some _ _).symm.trans H; rw [hy239]; with_reducible exact H2_) | (have H2_ := (Option.bind_some _ _).symm.trans H; with_reducible exact H2_) | with_reducible exact H | (rw [hy239]; exact H) | exact H
       have Ny239 := Aside0.mk hy239; clear hy239; have c37b0 := eq_true (of_decide_eq_true (by assumption) : x5_2 ≤ (x3_1.length : Int)); obtain ⟨y242, hy242⟩ : ∃ y_ : List Int, y_ = (x3_1.take (x5_2 : Int).toNat) := ⟨_, rfl⟩; replace H : (if 0 ≤ x4_1 then (if x4_1 < (l0.length : Int) then (if y242.length < 17592186044416 then ((some (y242 ++ [rd l0 x4_1] : List Int)).bind fun y246 => (if y246.length + y239.length < 17592186044416 then (spec_SortList.l0 k2 l0 (y246 ++ y239) (wrap64 (x4_1 + 1))) else (none))) else (none)) else (none)) else (none)) = some r := by first | (rw [hy242]; with_reducible exact H) | (have H2_ := (Option.bind_some _ _).symm.trans H; rw [hy242]; with_reducible exact H2_) | (have H2_ := (Option.bind_some _ _).symm.trans H; with_reducible exact H2_) | with_reducible exact H | (rw [hy242]; exact H) | exact H
       have Ny242 := Aside0.mk hy242; clear hy242; obtain ⟨c38, H⟩ := zi H; have c38b0 : decide (0 ≤ x4_1) = true := decide_eq_true c38; clear c38; obtain ⟨c39, H⟩ := zi H; have c39b0 : decide (x4_1 < (l0.length : Int)) = true := decide_eq_true c39; clear c39; obtain ⟨c40, H⟩ := zi H; have LMc40 := Aside0.mk c40; clear c40; obtain ⟨y246, hy246⟩ : ∃ y_ : List Int, y_ = (y242 ++ [rd l0 x4_1]) := ⟨_, rfl⟩; replace H : (if y246.length + y239.length < 17592186044416 then (spec_SortList.l0 k2 l0 (y246 ++ y239) (wrap64 (x4_1 + 1))) else (none)) = some r := by first | (rw [hy246]; with_reducible exact H) | (have H2_ := (Option.bind_some _ _).symm.trans H; rw [hy246]; with_reducible exact H2_) | (have H2_ := (Option.bind_some _ _).symm.trans H; with_reducible exact H2_) | with_reducible exact H | (rw [hy246]; exact H) | exact H
       have Ny246 := Aside0.mk hy246; clear hy246; obtain ⟨c41, H⟩ := zi H; have LMc41 := Aside0.mk c41; clear c41; obtain ⟨y249, hy249⟩ : ∃ y_ : List Int, y_ = (y246 ++ y239) := ⟨_, rfl⟩; replace H : (spec_SortList.l0 k2 l0 y249 (wrap64 (x4_1 + 1))) = some r := by first | (rw [hy249]; with_reducible exact H) | (have H2_ := (Option.bind_some _ _).symm.trans H; rw [hy249]; with_reducible exact H2_) | (have H2_ := (Option.bind_some _ _).symm.trans H; with_reducible exact H2_) | with_reducible exact H | (rw [hy249]; exact H) | exact H
       have Ny249 := Aside0.mk hy249; clear hy249; have H' := Aside0.mk H; clear H
       try go_wp2
       replace HO_3 := Aside0.mk (Kd.R_drew HO_3.out); replace HB := Aside0.mk (below_drew1 HB.out); refine start_ (n := 14) (S := fun w' => True) (ds := []) bA2 (by kernel_rfl) rfl rfl trivial (fun hHeld => ?_); refine with_tabW spec_SortList.tab6 spec_SortList.bits6 (fun HT_ HW_ => ?_); generalize wr.drew = w42 at HO_3 HB hHeld ⊢; refine zp 0 (some 16) ?_ bA9 rfl rfl HT_ (by kernel_rfl) (fun _ _ _ h => h) (by rfl) ?_ ?_ ?_ ?_; rotate_left
       ·intro w'; go_simp; (with_reducible rfl)
       rotate_left
       ·simp only [Act.put, qA, qB, qC, i64_w, i32_w]; rfl
       refine zp 1 (some 17) ?_ bA15 rfl rfl HT_ (by kernel_rfl) (fun _ _ _ h => h) (by rfl) ?_ ?_ ?_ ?_; rotate_left
       ·intro w'; go_simp; (with_reducible rfl)
       rotate_left
       ·simp only [Act.put, qA, qB, qC, i64_w, i32_w]; rfl
       refine zp 2 (some 18) ?_ bA20 rfl rfl HT_ (by kernel_rfl) (fun _ _ _ h => h) (by rfl) ?_ ?_ ?_ ?_; rotate_left
       ·intro w'; go_simp; (with_reducible rfl)
       rotate_left
       ·simp only [Act.put, qA, qB, qC, i64_w, i32_w]; rfl
       refine zu 3 (some 19) bA29 rfl rfl HT_ (by kernel_rfl) (fun _ _ _ h => h) (by rfl) ?_ ?_ ?_; rotate_left
       ·simp only [Act.put, qA, qB, qC, i64_w, i32_w]; rfl
       refine zu 4 (some 20) bA37 rfl rfl HT_ (by kernel_rfl) (fun _ _ _ h => h) (by rfl) ?_ ?_ ?_; rotate_left
       ·simp only [Act.put, qA, qB, qC, i64_w, i32_w]; rfl
       refine zu 5 (some 21) bA42 rfl rfl HT_ (by kernel_rfl) (fun _ _ _ h => h) (by rfl) ?_ ?_ ?_; rotate_left
       ·simp only [Act.put, qA, qB, qC, i64_w, i32_w]; rfl
       refine zu 6 (some 22) bA48 rfl rfl HT_ (by kernel_rfl) (fun _ _ _ h => h) (by rfl) ?_ ?_ ?_; rotate_left
       ·simp only [Act.put, qA, qB, qC, i64_w, i32_w]; rfl
       refine zu 7 (some 23) bA56 rfl rfl HT_ (by kernel_rfl) (fun _ _ _ h => h) (by rfl) ?_ ?_ ?_; rotate_left
       ·simp only [Act.put, qA, qB, qC, i64_w, i32_w]; rfl
       refine zu 8 (some 24) bA60 rfl rfl HT_ (by kernel_rfl) (fun _ _ _ h => h) (by rfl) ?_ ?_ ?_; rotate_left
       ·simp only [Act.put, qA, qB, qC, i64_w, i32_w]; rfl
       refine zu 9 (some 25) bA63 rfl rfl HT_ (by kernel_rfl) (fun _ _ _ h => h) (by rfl) ?_ ?_ ?_; rotate_left
       ·simp only [Act.put, qA, qB, qC, i64_w, i32_w]; rfl
       refine zu 10 (some 26) bA68 rfl rfl HT_ (by kernel_rfl) (fun _ _ _ h => h) (by rfl) ?_ ?_ ?_; rotate_left
       ·simp only [Act.put, qA, qB, qC, i64_w, i32_w]; rfl
       refine zu 11 (some 27) bA72 rfl rfl HT_ (by kernel_rfl) (fun _ _ _ h => h) (by rfl) ?_ ?_ ?_; rotate_left
       ·simp only [Act.put, qA, qB, qC, i64_w, i32_w]; rfl
       refine zu 12 (some 28) bA75 rfl rfl HT_ (by kernel_rfl) (fun _ _ _ h => h) (by rfl) ?_ ?_ ?_; rotate_left
       ·simp only [Act.put, qA, qB, qC, i64_w, i32_w]; rfl
       refine zp 13 (some 29) ?_ bA105 rfl rfl HT_ (by kernel_rfl) (fun _ _ _ h => h) (by rfl) ?_ ?_ ?_ ?_; rotate_left
       ·intro w'; go_simp; (with_reducible rfl)
       rotate_left
       ·simp only [Act.put, qA, qB, qC, i64_w, i32_w]; rfl
       refine done_ (done_of HT_.out (by kernel_rfl)) ?_
       try go_wp2
       replace HO_3 := Aside0.mk (Kd.R_drew HO_3.out); replace HB := Aside0.mk (below_drew1 HB.out); refine start_ (n := 14) (S := fun w' => True) (ds := []) bA2 (by kernel_rfl) rfl rfl trivial (fun hHeld => ?_); refine with_tabW spec_SortList.tab8 spec_SortList.bits8 (fun HT_ HW_ => ?_); generalize w42.drew = w43 at HO_3 HB hHeld ⊢; refine zp 0 (some 32) ?_ bA9 rfl rfl HT_ (by kernel_rfl) (fun _ _ _ h => h) (by rfl) ?_ ?_ ?_ ?_; rotate_left
       ·intro w'; go_simp; (with_reducible rfl)
       rotate_left
       ·simp only [Act.put, qA, qB, qC, i64_w, i32_w]; rfl
       refine zp 1 (some 33) ?_ bA15 rfl rfl HT_ (by kernel_rfl) (fun _ _ _ h => h) (by rfl) ?_ ?_ ?_ ?_; rotate_left
       ·intro w'; go_simp; (with_reducible rfl)
       rotate_left
       ·simp only [Act.put, qA, qB, qC, i64_w, i32_w]; rfl
       refine zp 2 (some 34) ?_ bA20 rfl rfl HT_ (by kernel_rfl) (fun _ _ _ h => h) (by rfl) ?_ ?_ ?_ ?_; rotate_left
       ·intro w'; go_simp; (with_reducible rfl)
       rotate_left
       ·simp only [Act.put, qA, qB, qC, i64_w, i32_w]; rfl
       refine zu 3 (some 35) bA29 rfl rfl HT_ (by kernel_rfl) (fun _ _ _ h => h) (by rfl) ?_ ?_ ?_; rotate_left
       ·simp only [Act.put, qA, qB, qC, i64_w, i32_w]; rfl
       refine zu 4 (some 36) bA37 rfl rfl HT_ (by kernel_rfl) (fun _ _ _ h => h) (by rfl) ?_ ?_ ?_; rotate_left
       ·simp only [Act.put, qA, qB, qC, i64_w, i32_w]; rfl
       refine zu 5 (some 37) bA42 rfl rfl HT_ (by kernel_rfl) (fun _ _ _ h => h) (by rfl) ?_ ?_ ?_; rotate_left
       ·simp only [Act.put, qA, qB, qC, i64_w, i32_w]; rfl
       refine zu 6 (some 38) bA48 rfl rfl HT_ (by kernel_rfl) (fun _ _ _ h => h) (by rfl) ?_ ?_ ?_; rotate_left
       ·simp only [Act.put, qA, qB, qC, i64_w, i32_w]; rfl
       refine zu 7 (some 39) bA56 rfl rfl HT_ (by kernel_rfl) (fun _ _ _ h => h) (by rfl) ?_ ?_ ?_; rotate_left
       ·simp only [Act.put, qA, qB, qC, i64_w, i32_w]; rfl
       refine zu 8 (some 40) bA60 rfl rfl HT_ (by kernel_rfl) (fun _ _ _ h => h) (by rfl) ?_ ?_ ?_; rotate_left
       ·simp only [Act.put, qA, qB, qC, i64_w, i32_w]; rfl
       refine zu 9 (some 41) bA63 rfl rfl HT_ (by kernel_rfl) (fun _ _ _ h => h) (by rfl) ?_ ?_ ?_; rotate_left
       ·simp only [Act.put, qA, qB, qC, i64_w, i32_w]; rfl
       refine zu 10 (some 42) bA68 rfl rfl HT_ (by kernel_rfl) (fun _ _ _ h => h) (by rfl) ?_ ?_ ?_; rotate_left
       ·simp only [Act.put, qA, qB, qC, i64_w, i32_w]; rfl
       refine zu 11 (some 43) bA72 rfl rfl HT_ (by kernel_rfl) (fun _ _ _ h => h) (by rfl) ?_ ?_ ?_; rotate_left
       ·simp only [Act.put, qA, qB, qC, i64_w, i32_w]; rfl
       refine zu 12 (some 44) bA75 rfl rfl HT_ (by kernel_rfl) (fun _ _ _ h => h) (by rfl) ?_ ?_ ?_; rotate_left
       ·simp only [Act.put, qA, qB, qC, i64_w, i32_w]; rfl
       refine zp 13 (some 45) ?_ bA105 rfl rfl HT_ (by kernel_rfl) (fun _ _ _ h => h) (by rfl) ?_ ?_ ?_ ?_; rotate_left
       ·intro w'; go_simp; (with_reducible rfl)
       rotate_left
       ·simp only [Act.put, qA, qB, qC, i64_w, i32_w]; rfl
       refine done_ (done_of HT_.out (by kernel_rfl)) ?_
       try go_wp2_with (first | ((with_reducible refine gate_dst (N := 46) rfl ?_); refine Kd.R_lit (Kd.int .i64) _ 3 ?hg (N := 46) ?hd (xs := ([] : List Int)) (inner := []) (ok := fun _ => True) (okp := fun _ => True) ?hr ?hp (fun _ hk => hk) trivial (Below.refl _ _) (Nat.le_refl _) (by simp) ?_; (case hd => rfl); (case hg => rfl); (case hr => first | (go_simp; done) | (go_simp; rfl)); (case hp => exact (Reps.none _ _)); intro v233 w44 ho45 hb hg_ hnew_; clear hg_ hnew_; (first | rw [← Ny232.out] at ho45 | (simp only [Int.reduceToNat] at ho45; rw [← Ny232.out] at ho45)); have n0_ := Aside0.mk (Kd.R_elder' (zR HO_3.out) (Kd.R_base ho45) hb); have n1_ := Aside0.mk (Kd.R_lower (Kd.R_new' ho45 (Kd.R_lt (zR HO_3.out))) (zS HB.out)); have n2_ := Aside0.mk (below_step (zB HB.out) hb); clear HO_3; clear HB; have HO_3 := n0_; have HO234 := n1_; have HB := n2_; clear n0_ n1_ n2_; clear hb ho45; have q46 : (x5_2 : Int) ≤ ((x3_1.length : Int) : Int) := of_decide_eq_true (by assumption); obtain ⟨i046, hi046, _, hsz46, _⟩ := info_parts info3; have hroom46 : x3_1.length ≤ co5 := (Kd.R_reads' HO_3.out).2.1; have hC46 : Kd.C (Kd.int .i64) _ Ao5 x3_1.length x3_1 := (Kd.R_reads' HO_3.out).2.2; have q046 : (0 : Int) ≤ (x5_2 : Int) := of_decide_eq_true (by assumption); have hcut46 := cut_from (P := Try.prog) 33 3 .i64 Try.underlying33 hi046 1 hsz46 Ao5 x3_1.length co5 x5_2 q046 q46; have hr46 := Kd.C_drop (m := (x5_2 : Int).toNat) (c := co5) hC46 (by omega) hroom46; obtain ⟨A46, hA46⟩ : ∃ A1, A1 = (if co5 = (x5_2 : Int).toNat then Ao5 else (Ao5 : Option Addr).map (·.add ((x5_2 : Int).toNat * 1))) := ⟨_, rfl⟩; obtain ⟨c46, hc46⟩ : ∃ c1, c1 = co5 - (x5_2 : Int).toNat := ⟨_, rfl⟩; have hy46 : y235.length = x3_1.length - (x5_2 : Int).toNat := (by rw [Ny235.out, List.length_drop] <;> omega); rw [show (x3_1).drop (x5_2 : Int).toNat = y235 from Ny235.out.symm] at hr46; replace hr46 : Kd.C (Kd.int .i64) _ A46 y235.length y235 := (by rw [hA46]; exact hr46); rw [← hy46, ← hA46, ← hc46] at hcut46; have HR238 := Aside0.mk hr46; have HC238 := Aside0.mk (show y235.length ≤ c46 from by rw [hy46, hc46]; exact Nat.sub_le_sub_right hroom46 _); clear hr46 hC46 hroom46 hi046 hsz46 hc46; have KY46 := Aside0.mk hy46; have KA46 := Aside0.mk hA46; clear hy46 hA46; have KL46 := Aside0.mk (show (x5_2 : Int).toNat ≤ x3_1.length from by omega); replace q46 := eq_true q46) | ((with_reducible refine gate_builtin (b := .append) (xs := #[.tmp 46, .tmp 49]) rfl ?_); at_builtin; refine Kd.R_append_rows (Kd.int .i64) (w0 := w) w.heap.size rfl (.tmp 46) (.tmp 49) 33 3 (.int .i64 0) 8 rfl Try.underlying33 info3 rfl (by decide) (by omega) v233 y232 y235 _ _ _ (fun k_ => some k_ ≠ (.slice Ao5 x3_1.length co5 : Value).ownBlock) (fun _ => False) rfl rfl ?aO ?aR (fun _ _ h => h) (fun _ h => h.elim) ?aF ?aB ?aS ?aL ?_; (case aR => repeat (first | exact (zC HR238.out) | (with_reducible refine Kd.C_alloc ?_ _) | (with_reducible refine Kd.C_drewN ?_ _) | (with_reducible refine Kd.C_drew ?_))); (case aB => exact (zB HB.out)); (case aF => exact (fun k_ hk => Kd.fresh' (Kd.R_lt (zR HO_3.out)) k_ hk)); (case aO => exact (zR (Kd.R_mono HO234.out (fun _ hk => hk.2)))); (case aS => exact (zS HB.out)); (case aL => have := LMc36.out; omega); intro v240 w47 ho hb hg hat; rw [← Ny239.out] at ho; have n0_ := Aside0.mk (Kd.R_after (ok := (fun _ => True)) (zR HO_3.out) hg hat); have n1_ := Aside0.mk (hb); have n2_ := Aside0.mk ((show Kd.C (Kd.int .i64) w47 A46 y235.length y235 from by rw [Ny235.out, KA46.out]; exact Kd.C_drop (m := (x5_2 : Int).toNat) (c := co5) ((Kd.R_reads' (Kd.R_after (ok := (fun _ => True)) (zR HO_3.out) hg hat)).2.2) KL46.out ((Kd.R_reads' (Kd.R_after (ok := (fun _ => True)) (zR HO_3.out) hg hat)).2.1))); have n3_ := Aside0.mk (ho); clear HO_3; clear HB; clear HR238; clear HO234; have HO_3 := n0_; have HB := n1_; have HR238 := n2_; have HO241 := n3_; clear n0_ n1_ n2_ n3_; clear ho hb hg hat))
       replace HO_3 := Aside0.mk (Kd.R_drew HO_3.out); replace HO241 := Aside0.mk (Kd.R_drew HO241.out); replace HR238 := Aside0.mk (Kd.C_drew HR238.out); replace HB := Aside0.mk (below_drew1 HB.out); have q49 : (x5_2 : Int) ≤ ((x3_1.length : Int) : Int) := of_decide_eq_true (by assumption); obtain ⟨i049, hi049, _, hsz49, _⟩ := info_parts info3; have hcut49 := cut_to (P := Try.prog) 33 3 .i64 Try.underlying33 hi049 Ao5 x3_1.length co5 x5_2 (of_decide_eq_true (by assumption)) q49 (Kd.R_reads' HO_3.out).2.1; have hr49 := Kd.R_take (m := (x5_2 : Int).toNat) HO_3.out (by omega); have hy49 : y242.length = (x5_2 : Int).toNat := (by rw [Ny242.out, List.length_take]; omega); rw [← Ny242.out] at hr49; rw [← hy49] at hr49 hcut49; clear hy49 hi049 hsz49 HO_3; have HO244 := Aside0.mk hr49; clear hr49; replace q49 := eq_true q49; have p245 : 0 ≤ (x4_1 : Int) := of_decide_eq_true (by assumption); have q245 : x4_1 < (l0.length : Int) := of_decide_eq_true (by assumption); obtain ⟨ad245, e245, hx245_0⟩ := Kd.at_int HR0.out x4_1 p245 q245; have hw245_0 := hx245_0
       cases e245; (try replace hx245_0 := (HB.out.cell (World.block_lt_of_cell? w _ hx245_0)).trans hx245_0); replace p245 := eq_true p245; replace q245 := eq_true q245; refine start_ (n := 12) (S := fun w' => w'.cell? (ad245.add (x4_1).toNat) = some (.int .i64 (rd l0 x4_1))) (ds := []) bA4 (by kernel_rfl) rfl rfl (((HB.out.cell (World.block_lt_of_cell? w _ hw245_0)).trans hw245_0)) (fun hHeld => ?_); refine with_tabW spec_SortList.tab10 spec_SortList.bits10 (fun HT_ HW_ => ?_); generalize w47.drew = w48 at HO_3 HO241 HR238 HB HO244 hx245_0 hHeld ⊢; refine zp 0 (some 51) ?_ bA11 rfl rfl HT_ (by kernel_rfl) (fun _ _ _ h => h) (by rfl) ?_ ?_ ?_ ?_; rotate_left
       ·intro w'; go_simp; (with_reducible rfl)
       rotate_left
       ·simp only [Act.put, qA, qB, qC, i64_w, i32_w]; rfl
       refine zp 1 (some 52) ?_ bA17 rfl rfl HT_ (by kernel_rfl) (fun _ _ _ h => h) (by rfl) ?_ ?_ ?_ ?_; rotate_left
       ·intro w'; go_simp; (with_reducible rfl)
       rotate_left
       ·simp only [Act.put, qA, qB, qC, i64_w, i32_w]; rfl
       refine zp 2 (some 53) ?_ bA22 rfl rfl HT_ (by kernel_rfl) (fun _ _ _ h => h) (by rfl) ?_ ?_ ?_ ?_; rotate_left
       ·intro w'; go_simp; (with_reducible rfl)
       rotate_left
       ·simp only [Act.put, qA, qB, qC, i64_w, i32_w]; rfl
       refine zp 3 (some 54) ?_ bA30 rfl rfl HT_ (by kernel_rfl) (fun _ _ _ h => h) (by rfl) ?_ ?_ ?_ ?_; rotate_left
       ·intro w'; go_simp; (with_reducible rfl)
       rotate_left
       ·simp only [Act.put, qA, qB, qC, i64_w, i32_w]; rfl
       refine zp 4 (some 55) ?_ bA38 rfl rfl HT_ (by kernel_rfl) (fun _ _ _ h => h) (by rfl) ?_ ?_ ?_ ?_; rotate_left
       ·intro w'; go_simp; (with_reducible rfl)
       rotate_left
       ·simp only [Act.put, qA, qB, qC, i64_w, i32_w]; rfl
       refine zp 5 (some 56) ?_ bA43 rfl rfl HT_ (by kernel_rfl) (fun _ _ _ h => h) (by rfl) ?_ ?_ ?_ ?_; rotate_left
       ·intro w'; go_simp; (with_reducible rfl)
       rotate_left
       ·simp only [Act.put, qA, qB, qC, i64_w, i32_w]; rfl
       refine zp 9 (some 60) ?_ bA44 rfl rfl HT_ (by kernel_rfl) (fun _ _ _ h => h) (by rfl) ?_ ?_ ?_ ?_; rotate_left
       ·intro w'; go_simp; (with_reducible rfl)
       rotate_left
       ·simp only [Act.put, qA, qB, qC, i64_w, i32_w]; rfl
       refine zt 6 (some 57) ?_ bA49 rfl rfl HT_ HW_ (by kernel_rfl) (fun _ _ _ h => h) (by rfl) ?_ hHeld ?_ ?_ ?_; rotate_left
       ·intro w' s0; go_simp; (with_reducible rfl)
       rotate_left
       ·simp only [Act.put, qA, qB, qC, i64_w, i32_w]; rfl
       refine one_ (i := 7) (N := some 58) bA57 rfl rfl (one_of HT_.out (by kernel_rfl)) (by decide) (fun K hK => ?_); refine value_ (w1 := ?_) (v := ?_) (by rfl) rfl ?_ ?_; rotate_left 2
       ·go_simp; constructor
        ·rfl
        ·rfl
       refine hK.out _ _ ((World.cell?_alloc_lt _ _ _ (World.block_lt_of_cell? _ _ (((HB.out.cell (World.block_lt_of_cell? w _ hw245_0)).trans hw245_0)))).trans (((HB.out.cell (World.block_lt_of_cell? w _ hw245_0)).trans hw245_0))) (fun hHeld => ?_); clear hK K; refine norm_ (a' := ?_) ?_ ?_; rotate_left
       ·show Act.put _ (some 58) _ = _; simp only [Act.put, qA, qB, qC, i64_w, i32_w]; rfl
       refine one_ (i := 8) (N := some 59) bA65 rfl rfl (one_of HT_.out (by kernel_rfl)) (by decide) (fun K hK => ?_); refine Kd.R_append_step (Kd.int .i64) (w0 := w) w.heap.size (by rfl) (.tmp 53) (.tmp 58) 33 3 (.int .i64 0) 8 rfl Try.underlying33 info3 rfl (by decide) (by omega) (.slice Ao5 y242.length co5) y242 (rd l0 x4_1) [.int .i64 (rd l0 x4_1)] (fun k_ => some k_ ≠ (v240 : Value).ownBlock) (fun _ => False) rfl rfl ?aP (fun _ hk => hk.elim) ?aF ?aO ?aB ?aS ?aL ?_; (case aP => exact rfl); (case aB => exact (zB HB.out)); (case aF => exact (fun k_ hk => Kd.fresh' (Kd.R_lt (zR HO241.out)) k_ hk)); (case aO => exact (zR (Kd.R_mono HO244.out (fun _ hk => hk.2)))); (case aS => exact (zS HB.out)); (case aL => have := LMc40.out; omega); intro v247 w50 ho hb hg hat; rw [← Ny246.out] at ho; replace HO241 := Aside0.mk (Kd.R_after (ok := (fun _ => True)) (zR (Kd.R_mono HO241.out (fun _ hk => ⟨trivial, by first | exact hk | (rw [qO] at hk ⊢; exact hk)⟩))) hg hat); replace HB := Aside0.mk (hb); have HO248 := Aside0.mk (ho); clear HO244; clear ho hb hg hat; obtain ⟨Ao52, co52, eo52⟩ := Kd.R_slice HO241.out; (first | subst eo52 | (injection eo52 with f1_ f2_ f3_; have f4_ := f1_.symm; have f5_ := f3_.symm; clear f1_ f2_ f3_; subst f4_; subst f5_)); refine hK.out _ _ (((HB.out.cell (World.block_lt_of_cell? w _ hw245_0)).trans hw245_0)) (fun hHeld => ?_); clear hK K; refine norm_ (a' := ?_) ?_ ?_; rotate_left
       ·show Act.put _ (some 59) _ = _; simp only [Act.put, qA, qB, qC, i64_w, i32_w]; rfl
       refine one_ (i := 10) (N := some 61) bA70 rfl rfl (one_of HT_.out (by kernel_rfl)) (by decide) (fun K hK => ?_); refine Kd.R_append_rows_step (Kd.int .i64) (w0 := w) w.heap.size (by rfl) (.tmp 59) (.tmp 60) 33 3 (.int .i64 0) 8 rfl Try.underlying33 info3 rfl (by decide) (by omega) v247 y246 y239 _ _ _ (fun k_ => some k_ ≠ (.slice Ao52 y239.length co52 : Value).ownBlock) (fun _ => False) rfl rfl ?aO ?aR (fun _ _ h => h) (fun _ h => h.elim) ?aF ?aB ?aS ?aL ?_; (case aR => repeat (first | exact (Kd.R_reads' HO241.out).2.2 | (with_reducible refine Kd.C_alloc ?_ _) | (with_reducible refine Kd.C_drewN ?_ _) | (with_reducible refine Kd.C_drew ?_))); (case aB => exact (zB HB.out)); (case aF => exact (fun k_ hk => Kd.fresh' (Kd.R_lt (zR HO241.out)) k_ hk)); (case aO => exact (zR HO248.out)); (case aS => exact (zS HB.out)); (case aL => have := LMc41.out; omega); intro v250 w51 ho hb hg hat; rw [← Ny249.out] at ho; replace HO241 := Aside0.mk (Kd.R_after (ok := (fun _ => True)) (zR HO241.out) hg hat); replace HB := Aside0.mk (hb); have HO251 := Aside0.mk (ho); clear HO248; clear ho hb hg hat; refine hK.out _ _ (((HB.out.cell (World.block_lt_of_cell? w _ hw245_0)).trans hw245_0)) (fun hHeld => ?_); clear hK K; refine norm_ (a' := ?_) ?_ ?_; rotate_left
       ·show Act.put _ (some 61) _ = _; simp only [Act.put, qA, qB, qC, i64_w, i32_w]; rfl
       refine zp 11 (some 3) ?_ bA107 rfl rfl HT_ (by kernel_rfl) (fun _ _ _ h => h) (by rfl) ?_ ?_ ?_ ?_; rotate_left
       ·intro w'; go_simp; (with_reducible rfl)
       rotate_left
       ·simp only [Act.put, qA, qB, qC, i64_w, i32_w]; rfl
       refine done_ (done_of HT_.out (by kernel_rfl)) ?_
       try go_wp2
       go_roundg k2
       case measure => have := HK1.out; have := HK2.out; omega
       case rel => exact ⟨(y249), (wrap64 (x4_1 + 1)), (by first | rfl | (simp; done) | (simp [*]; done)), H', ⟨by have := HK1.out; have := HK2.out; omega⟩, ⟨zR (Kd.R_mono HO251.out (fun _ hk => trivial))⟩, ⟨zB HB.out⟩⟩
   ·rw [if_neg c4] at H; have c4b0 : decide (x4_1 < (l0.length : Int)) = false := decide_eq_false c4; clear c4; obtain rfl := Option.some.inj H; go_wp2; go_ret
    exact ⟨_, by first | rfl | (simp [*, errW_none, errW_some] <;> rfl), zR HO_3.out, zB HB.out⟩

end Go.Proofs.Ytbagfnppeidonaa.PFnFromGaps
