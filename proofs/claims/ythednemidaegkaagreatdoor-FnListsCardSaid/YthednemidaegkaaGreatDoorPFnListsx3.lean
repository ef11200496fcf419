-- Written by a program of this session (a turned copy of the kit's print; see NOTES.md).
import Derived.Test.YthednemidaegkaaGreatDoorPFnListsx0
import Derived.Test.YthednemidaegkaaGreatDoorPFnListsx2
namespace Go.Proofs.YthednemidaegkaaGreatDoor.PFnLists
open Go.RowKit Go.Proofs.YthednemidaegkaaGreatDoorW.PrintWords Go.Proofs.YthednemidaegkaaGreatDoorW.PrintLast Go.Proofs.YthednemidaegkaaGreatDoorW.PrintMore
attribute [local go_sem] max2_int min2_int max_two min_two max_three min_three max_four min_four   -- for this text's walks alone
set_option linter.unusedVariables false
set_option linter.unusedSimpArgs false

/-! ### spec_SortList: function 18 -/
mutual
def spec_SortList.l0 : Nat → List Int → List Int → Int → Option (List Int)
 | 0, _, _, _ => none
 | k + 1, x0, x3, x4 => if x4 < (x0.length : Int) then (spec_SortList.l1 k x0 x3 x4 (x3.length : Int)) else (some x3)
def spec_SortList.l1 : Nat → List Int → List Int → Int → Int → Option (List Int)
 | 0, _, _, _, _ => none
 | k + 1, x0, x3, x4, x5 => if x5 > 0 then (if 0 ≤ (wrap64 (x5 - 1)) then (if (wrap64 (x5 - 1)) < (x3.length : Int) then (if 0 ≤ x4 then (if x4 < (x0.length : Int) then (if (rd x3 (wrap64 (x5 - 1))) > (rd x0 x4) then (spec_SortList.l1 k x0 x3 x4 (wrap64 (x5 - 1))) else (if (rd x3 (wrap64 (x5 - 1))) = (rd x0 x4) then (spec_SortList.l0 k x0 x3 (wrap64 (x4 + 1))) else ((some (([] : List Int) : List Int)).bind fun y237 => (if 0 ≤ x5 then (if x5 ≤ (x3.length : Int) then ((some (x3.drop (x5 : Int).toNat : List Int)).bind fun y240 => (if y237.length + y240.length < 17592186044416 then ((some (y237 ++ y240 : List Int)).bind fun y244 => ((some (x3.take (x5 : Int).toNat : List Int)).bind fun y247 => (if y247.length < 17592186044416 then ((some (y247 ++ [rd x0 x4] : List Int)).bind fun y251 => (if y251.length + y244.length < 17592186044416 then (spec_SortList.l0 k x0 (y251 ++ y244) (wrap64 (x4 + 1))) else (none))) else (none)))) else (none))) else (none)) else (none))))) else (none)) else (none)) else (none)) else (none)) else ((some (([] : List Int) : List Int)).bind fun y257 => (if 0 ≤ x5 then (if x5 ≤ (x3.length : Int) then ((some (x3.drop (x5 : Int).toNat : List Int)).bind fun y260 => (if y257.length + y260.length < 17592186044416 then ((some (y257 ++ y260 : List Int)).bind fun y264 => ((some (x3.take (x5 : Int).toNat : List Int)).bind fun y267 => (if 0 ≤ x4 then (if x4 < (x0.length : Int) then (if y267.length < 17592186044416 then ((some (y267 ++ [rd x0 x4] : List Int)).bind fun y271 => (if y271.length + y264.length < 17592186044416 then (spec_SortList.l0 k x0 (y271 ++ y264) (wrap64 (x4 + 1))) else (none))) else (none)) else (none)) else (none)))) else (none))) else (none)) else (none)))
end
def spec_SortList.f (k : Nat) (l0 : List Int) : Option (List Int) := spec_SortList.l0 k l0 (([] : List Int)) 0
def spec_SortList.T6 : Bool × List (List Nat × List Nat) := (true, [([], []), ([0], [0]), ([1], [1]), ([2], [2]), ([2], [2]), ([4, 2], [2, 4]), ([3, 5, 2], [2, 3, 5]), ([6, 2], [2, 6]), ([2], [2]), ([2], [2]), ([8, 9, 2], [2, 8, 9]), ([10, 2], [2, 10]), ([7, 11, 2], [2, 7, 11]), ([2, 12], [2, 12])])
def spec_SortList.B6 : List Nat := [0, 1, 3, 7, 7, 23, 63, 127, 7, 7, 775, 1799, 4095, 8191]
theorem spec_SortList.tab6 : rtab .any (opsOf Tryz.f18 6) = spec_SortList.T6 := by kernel_rfl
theorem spec_SortList.bits6 : waitsOk spec_SortList.T6.2 spec_SortList.B6 = true := by kernel_rfl
def spec_SortList.T8 : Bool × List (List Nat × List Nat) := (true, [([], []), ([0], [0]), ([1], [1]), ([2], [2]), ([2], [2]), ([4, 2], [2, 4]), ([3, 5, 2], [2, 3, 5]), ([6, 2], [2, 6]), ([2], [2]), ([2], [2]), ([8, 9, 2], [2, 8, 9]), ([10, 2], [2, 10]), ([7, 11, 2], [2, 7, 11]), ([2, 12], [2, 12])])
def spec_SortList.B8 : List Nat := [0, 1, 3, 7, 7, 23, 63, 127, 7, 7, 775, 1799, 4095, 8191]
theorem spec_SortList.tab8 : rtab .any (opsOf Tryz.f18 8) = spec_SortList.T8 := by kernel_rfl
theorem spec_SortList.bits8 : waitsOk spec_SortList.T8.2 spec_SortList.B8 = true := by kernel_rfl
def spec_SortList.T10 : Bool × List (List Nat × List Nat) := (true, [([], []), ([], []), ([0, 1], [0, 1]), ([], []), ([], []), ([3, 4], [3, 4]), ([5], [5]), ([6], [6]), ([2, 7], [2, 7]), ([], []), ([8, 9, 8], [8, 9]), ([10, 10, 0, 1, 2, 3, 4, 5, 6, 7, 8, 9, 10], [0, 10])])
def spec_SortList.B10 : List Nat := [0, 0, 3, 0, 0, 24, 56, 120, 255, 0, 1023, 2047]
theorem spec_SortList.tab10 : rtab .any (opsOf Tryz.f18 10) = spec_SortList.T10 := by kernel_rfl
theorem spec_SortList.bits10 : waitsOk spec_SortList.T10.2 spec_SortList.B10 = true := by kernel_rfl
set_option maxHeartbeats 8000000 in
set_option maxRecDepth 100000 in
theorem spec_SortList.calls (k : Nat) (A0 : Option Addr) (c0 : Nat) (l0 : List Int) (r : List Int) (w : World) (hr0 : Kd.C (Kd.int .i64) w A0 l0.length l0) (hc0 : l0.length ≤ c0) (h : spec_SortList.f k l0 = some r) :
  Calls Tryz.prog 18 #[.slice A0 l0.length c0] w fun e w' => ∃ v0_ : Value, e = .returned (v0_) ∧ Kd.R (Kd.int .i64) 3 w' w.heap.size (fun _ => True) v0_ r ∧ Below w.heap.size w w' := by
 have HR0 := Aside0.mk hr0; have HC0 := Aside0.mk hc0; clear hr0 hc0; have HB := Aside0.mk (Below.refl w.heap.size w); have H : (spec_SortList.l0 k l0 (([] : List Int)) 0) = some r := h; clear h; obtain ⟨y230, hy230⟩ : ∃ y_ : List Int, y_ = (([] : List Int)) := ⟨_, rfl⟩; replace H : (spec_SortList.l0 k l0 y230 0) = some r := by first | (rw [hy230]; with_reducible exact H) | (have H2_ := (Option.bind_some _ _).symm.trans H; rw [hy230]; with_reducible exact H2_) | (have H2_ := (Option.bind_some _ _).symm.trans H; with_reducible exact H2_) | with_reducible exact H | (rw [hy230]; exact H) | exact H
 have Ny230 := Aside0.mk hy230; clear hy230; have H' := Aside0.mk H; clear H; go_enter Tryz.func18, Tryz.ntmps18; go_wp2_with (first | ((with_reducible refine gate_dst (N := 7) rfl ?_); refine Kd.R_lit (Kd.int .i64) _ 3 ?hg (N := 7) ?hd (xs := ([] : List Int)) (inner := []) (ok := fun _ => True) (okp := fun _ => True) ?hr ?hp (fun _ hk => hk) trivial (Below.refl _ _) (Nat.le_refl _) (by simp) ?_; (case hd => rfl); (case hg => rfl); (case hr => first | (go_simp; done) | (go_simp; rfl)); (case hp => exact (Reps.none _ _)); intro v231 w2 ho3 hb hg_ hnew_; clear hg_ hnew_; (first | rw [← Ny230.out] at ho3 | (simp only [Int.reduceToNat] at ho3; rw [← Ny230.out] at ho3)); have HO232 := Aside0.mk (Kd.R_lower ho3 (zS HB.out)); replace HB := Aside0.mk (below_step (zB HB.out) hb); clear hb ho3)); go_loopg [3, 4] k (fun kq v3 v4 w' => ∃ (x3_1 : List Int) (x4_1 : Int), v4 = .int .i64 x4_1 ∧ Aside0 (spec_SortList.l0 kq l0 x3_1 x4_1 = some r) ∧ Aside0 (kq ≤ k) ∧ Aside0 (Kd.R (Kd.int .i64) 3 w' w.heap.size (fun _ => True) v3 x3_1) ∧ Aside0 (Below w.heap.size w w'))
 case atStart => exact ⟨(y230), (0), (by first | rfl | (simp; done) | (simp [*]; done)), H', ⟨Nat.le_refl _⟩, ⟨zR HO232.out⟩, ⟨zB HB.out⟩⟩
 case round =>
  clear H'; obtain ⟨x3_1, x4_1, rfl, HA, HK1, HO_3, HB⟩ := hrel
  cases gk with
  | zero => exact absurd HA.out (by simp [spec_SortList.l0])
  | succ k1 =>
   have H := HA.out; clear HA; simp only [spec_SortList.l0] at H
   by_cases c4 : x4_1 < (l0.length : Int)
   ·rw [if_pos c4] at H; have c4b0 : decide (x4_1 < (l0.length : Int)) = true := decide_eq_true c4; clear c4; have H' := Aside0.mk H; clear H; obtain ⟨Ao5, co5, eo5⟩ := Kd.R_slice HO_3.out; subst eo5; go_wp2; go_loopg [5] k1 (fun kq v5 w' => ∃ (x5_2 : Int), v5 = .int .i64 x5_2 ∧ Aside0 (spec_SortList.l1 kq l0 x3_1 x4_1 x5_2 = some r) ∧ Aside0 (kq ≤ k1) ∧ Aside0 (Kd.R (Kd.int .i64) 3 w' w.heap.size (fun _ => True) (.slice Ao5 x3_1.length co5) x3_1) ∧ Aside0 (Below w.heap.size w w'))
    case atStart => exact ⟨((x3_1.length : Int)), (by first | rfl | (simp; done) | (simp [*]; done)), H', ⟨Nat.le_refl _⟩, ⟨zR HO_3.out⟩, ⟨zB HB.out⟩⟩
    case round =>
     clear H'
     try clear c4b0
     obtain ⟨x5_2, rfl, HA, HK2, HO_3, HB⟩ := hrel
     cases gk with
     | zero => exact absurd HA.out (by simp [spec_SortList.l1])
     | succ k2 =>
      have H := HA.out; clear HA; simp only [spec_SortList.l1] at H
      by_cases c6 : x5_2 > 0
      ·rw [if_pos c6] at H; have c6b0 : decide (0 < x5_2) = true := decide_eq_true c6; clear c6; obtain ⟨ji7, hji7⟩ : ∃ j_ : Int, (wrap64 (x5_2 - 1)) = j_ := ⟨_, rfl⟩; replace H : (if 0 ≤ (ji7) then (if (ji7) < (x3_1.length : Int) then (if 0 ≤ x4_1 then (if x4_1 < (l0.length : Int) then (if (rd x3_1 (ji7)) > (rd l0 x4_1) then (spec_SortList.l1 k2 l0 x3_1 x4_1 ji7) else (if (rd x3_1 (ji7)) = (rd l0 x4_1) then (spec_SortList.l0 k2 l0 x3_1 (wrap64 (x4_1 + 1))) else ((some (([] : List Int) : List Int)).bind fun y237 => (if 0 ≤ x5_2 then (if x5_2 ≤ (x3_1.length : Int) then ((some (x3_1.drop (x5_2 : Int).toNat : List Int)).bind fun y240 => (if y237.length + y240.length < 17592186044416 then ((some (y237 ++ y240 : List Int)).bind fun y244 => ((some (x3_1.take (x5_2 : Int).toNat : List Int)).bind fun y247 => (if y247.length < 17592186044416 then ((some (y247 ++ [rd l0 x4_1] : List Int)).bind fun y251 => (if y251.length + y244.length < 17592186044416 then (spec_SortList.l0 k2 l0 (y251 ++ y244) (wrap64 (x4_1 + 1))) else (none))) else (none)))) else (none))) else (none)) else (none))))) else (none)) else (none)) else (none)) else (none)) = some r := by first | (rw [hji7] at H; exact H) | (simp only [hji7] at H ⊢; exact H)
       have hji7w : (IntKind.i64.wrap (x5_2 - 1)) = ji7 := (i64_w _).trans hji7; obtain ⟨c8, H⟩ := zi H; have c8b0 : decide (0 ≤ (ji7)) = true := decide_eq_true c8; clear c8; obtain ⟨c9, H⟩ := zi H; have c9b0 : decide ((ji7) < (x3_1.length : Int)) = true := decide_eq_true c9; clear c9; obtain ⟨c10, H⟩ := zi H; have c10b0 : decide (0 ≤ x4_1) = true := decide_eq_true c10; clear c10; obtain ⟨c11, H⟩ := zi H; have c11b0 : decide (x4_1 < (l0.length : Int)) = true := decide_eq_true c11; clear c11
       by_cases c12 : (rd x3_1 (ji7)) > (rd l0 x4_1)
       ·rw [if_pos c12] at H; have c12b0 : decide ((rd l0 x4_1) < (rd x3_1 (ji7))) = true := decide_eq_true c12; clear c12; have H' := Aside0.mk H; clear H
        try go_wp2
        replace HO_3 := Aside0.mk (Kd.R_drew HO_3.out); replace HB := Aside0.mk (below_drew1 HB.out); have p233 : 0 ≤ ((ji7) : Int) := of_decide_eq_true (by assumption); have q233 : (ji7) < (x3_1.length : Int) := of_decide_eq_true (by assumption); obtain ⟨ad233, e233, hx233_0⟩ := Kd.at_int (Kd.R_reads' HO_3.out).2.2 (ji7) p233 q233
        cases e233; replace p233 := eq_true p233; replace q233 := eq_true q233; have p234 : 0 ≤ (x4_1 : Int) := of_decide_eq_true (by assumption); have q234 : x4_1 < (l0.length : Int) := of_decide_eq_true (by assumption); obtain ⟨ad234, e234, hx234_0⟩ := Kd.at_int HR0.out x4_1 p234 q234; have hw234_0 := hx234_0
        cases e234; (try replace hx234_0 := (HB.out.cell (World.block_lt_of_cell? w _ hx234_0)).trans hx234_0); replace p234 := eq_true p234; replace q234 := eq_true q234; refine start_ (n := 14) (S := fun w' => w'.cell? (ad233.add ((ji7)).toNat) = some (.int .i64 (rd x3_1 (ji7))) ∧ w'.cell? (ad234.add (x4_1).toNat) = some (.int .i64 (rd l0 x4_1))) (ds := []) bA0 (by kernel_rfl) rfl rfl ⟨hx233_0, ((HB.out.cell (World.block_lt_of_cell? w _ hw234_0)).trans hw234_0)⟩ (fun hHeld => ?_); refine with_tabW spec_SortList.tab6 spec_SortList.bits6 (fun HT_ HW_ => ?_); generalize wr.drew = w13 at HO_3 HB hx233_0 hx234_0 hHeld ⊢; refine zP 0 (some 16) ?_ bA2 rfl rfl HT_ ?_ ?_ ?_ ?_; rotate_left
        ·intro w'; go_simp; (with_reducible rfl)
        rotate_left
        ·simp only [Act.put, qA, qB, qC, i64_w]; rfl
        refine zP 1 (some 17) ?_ bA4 rfl rfl HT_ ?_ ?_ ?_ ?_; rotate_left
        ·intro w'; go_simp; (with_reducible rfl)
        rotate_left
        ·simp only [Act.put, qA, qB, qC, i64_w]; rfl
        refine zP 2 (some 18) ?_ bA6 rfl rfl HT_ ?_ ?_ ?_ ?_; rotate_left
        ·intro w'; go_simp; (with_reducible rfl)
        rotate_left
        ·simp only [Act.put, qA, qB, qC, i64_w]; rfl
        refine zP 3 (some 19) ?_ bA8 rfl rfl HT_ ?_ ?_ ?_ ?_; rotate_left
        ·intro w'; go_simp; (with_reducible rfl)
        rotate_left
        ·simp only [Act.put, qA, qB, qC, i64_w]; rfl
        refine zP 4 (some 20) ?_ bA10 rfl rfl HT_ ?_ ?_ ?_ ?_; rotate_left
        ·intro w'; go_simp; (with_reducible rfl)
        rotate_left
        ·simp only [Act.put, qA, qB, qC, i64_w]; rfl
        refine zP 5 (some 21) ?_ bA12 rfl rfl HT_ ?_ ?_ ?_ ?_; rotate_left
        ·intro w'; go_simp; (with_reducible rfl)
        rotate_left
        ·simp only [Act.put, qA, qB, qC, i64_w]; rfl
        refine zP 6 (some 22) ?_ bA15 rfl rfl HT_ ?_ ?_ ?_ ?_; rotate_left
        ·intro w'; go_simp; (with_reducible rfl)
        rotate_left
        ·simp only [Act.put, qA, qB, qC, i64_w]; rfl
        refine zP 8 (some 24) ?_ bA17 rfl rfl HT_ ?_ ?_ ?_ ?_; rotate_left
        ·intro w'; go_simp; (with_reducible rfl)
        rotate_left
        ·simp only [Act.put, qA, qB, qC, i64_w]; rfl
        refine zP 9 (some 25) ?_ bA18 rfl rfl HT_ ?_ ?_ ?_ ?_; rotate_left
        ·intro w'; go_simp; (with_reducible rfl)
        rotate_left
        ·simp only [Act.put, qA, qB, qC, i64_w]; rfl
        refine zP 10 (some 26) ?_ bA19 rfl rfl HT_ ?_ ?_ ?_ ?_; rotate_left
        ·intro w'; go_simp; (with_reducible rfl)
        rotate_left
        ·simp only [Act.put, qA, qB, qC, i64_w]; rfl
        refine zZ 7 (some 23) ?_ bA25 rfl rfl HT_ HW_ ?_ hHeld ?_ ?_ ?_; rotate_left
        ·rintro w' ⟨s0, s1⟩; go_simp; (with_reducible rfl)
        rotate_left
        ·simp only [Act.put, qA, qB, qC, i64_w]; rfl
        refine zZ 11 (some 27) ?_ bA27 rfl rfl HT_ HW_ ?_ hHeld ?_ ?_ ?_; rotate_left
        ·rintro w' ⟨s0, s1⟩; go_simp; (with_reducible rfl)
        rotate_left
        ·simp only [Act.put, qA, qB, qC, i64_w]; rfl
        refine zP 12 (some 28) ?_ bA28 rfl rfl HT_ ?_ ?_ ?_ ?_; rotate_left
        ·intro w'; go_simp; (with_reducible rfl)
        rotate_left
        ·simp only [Act.put, qA, qB, qC, i64_w]; rfl
        refine zP 13 (some 29) ?_ bA29 rfl rfl HT_ ?_ ?_ ?_ ?_; rotate_left
        ·intro w'; go_simp; (with_reducible rfl)
        rotate_left
        ·simp only [Act.put, qA, qB, qC, i64_w]; rfl
        refine done_ (done_of HT_.out (by kernel_rfl)) ?_
        try go_wp2
        go_roundg k2
        case measure => have := HK1.out; have := HK2.out; omega
        case rel => exact ⟨(ji7), (by first | rfl | (simp; done) | (simp only [← hji7] <;> (first | rfl | simp)) | (simp [*]; done)), H', ⟨by have := HK1.out; have := HK2.out; omega⟩, ⟨zR HO_3.out⟩, ⟨zB HB.out⟩⟩
       ·rw [if_neg c12] at H; have c12b0 : decide ((rd l0 x4_1) < (rd x3_1 (ji7))) = false := decide_eq_false c12; clear c12
        by_cases c14 : (rd x3_1 (ji7)) = (rd l0 x4_1)
        ·rw [if_pos c14] at H; have c14b0 : ((rd x3_1 (ji7)) == (rd l0 x4_1)) = true := beq_iff_eq.mpr c14; have c14b1 : ((rd x3_1 (ji7)) != (rd l0 x4_1)) = false := bne_eq_false_iff_eq.mpr c14; clear c14; have H' := Aside0.mk H; clear H
         try go_wp2
         replace HO_3 := Aside0.mk (Kd.R_drew HO_3.out); replace HB := Aside0.mk (below_drew1 HB.out); have p233 : 0 ≤ ((ji7) : Int) := of_decide_eq_true (by assumption); have q233 : (ji7) < (x3_1.length : Int) := of_decide_eq_true (by assumption); obtain ⟨ad233, e233, hx233_0⟩ := Kd.at_int (Kd.R_reads' HO_3.out).2.2 (ji7) p233 q233
         cases e233; replace p233 := eq_true p233; replace q233 := eq_true q233; have p234 : 0 ≤ (x4_1 : Int) := of_decide_eq_true (by assumption); have q234 : x4_1 < (l0.length : Int) := of_decide_eq_true (by assumption); obtain ⟨ad234, e234, hx234_0⟩ := Kd.at_int HR0.out x4_1 p234 q234; have hw234_0 := hx234_0
         cases e234; (try replace hx234_0 := (HB.out.cell (World.block_lt_of_cell? w _ hx234_0)).trans hx234_0); replace p234 := eq_true p234; replace q234 := eq_true q234; refine start_ (n := 14) (S := fun w' => w'.cell? (ad233.add ((ji7)).toNat) = some (.int .i64 (rd x3_1 (ji7))) ∧ w'.cell? (ad234.add (x4_1).toNat) = some (.int .i64 (rd l0 x4_1))) (ds := []) bA0 (by kernel_rfl) rfl rfl ⟨hx233_0, ((HB.out.cell (World.block_lt_of_cell? w _ hw234_0)).trans hw234_0)⟩ (fun hHeld => ?_); refine with_tabW spec_SortList.tab6 spec_SortList.bits6 (fun HT_ HW_ => ?_); generalize wr.drew = w15 at HO_3 HB hx233_0 hx234_0 hHeld ⊢; refine zP 0 (some 16) ?_ bA2 rfl rfl HT_ ?_ ?_ ?_ ?_; rotate_left
         ·intro w'; go_simp; (with_reducible rfl)
         rotate_left
         ·simp only [Act.put, qA, qB, qC, i64_w]; rfl
         refine zP 1 (some 17) ?_ bA4 rfl rfl HT_ ?_ ?_ ?_ ?_; rotate_left
         ·intro w'; go_simp; (with_reducible rfl)
         rotate_left
         ·simp only [Act.put, qA, qB, qC, i64_w]; rfl
         refine zP 2 (some 18) ?_ bA6 rfl rfl HT_ ?_ ?_ ?_ ?_; rotate_left
         ·intro w'; go_simp; (with_reducible rfl)
         rotate_left
         ·simp only [Act.put, qA, qB, qC, i64_w]; rfl
         refine zP 3 (some 19) ?_ bA8 rfl rfl HT_ ?_ ?_ ?_ ?_; rotate_left
         ·intro w'; go_simp; (with_reducible rfl)
         rotate_left
         ·simp only [Act.put, qA, qB, qC, i64_w]; rfl
         refine zP 4 (some 20) ?_ bA10 rfl rfl HT_ ?_ ?_ ?_ ?_; rotate_left
         ·intro w'; go_simp; (with_reducible rfl)
         rotate_left
         ·simp only [Act.put, qA, qB, qC, i64_w]; rfl
         refine zP 5 (some 21) ?_ bA12 rfl rfl HT_ ?_ ?_ ?_ ?_; rotate_left
         ·intro w'; go_simp; (with_reducible rfl)
         rotate_left
         ·simp only [Act.put, qA, qB, qC, i64_w]; rfl
         refine zP 6 (some 22) ?_ bA15 rfl rfl HT_ ?_ ?_ ?_ ?_; rotate_left
         ·intro w'; go_simp; (with_reducible rfl)
         rotate_left
         ·simp only [Act.put, qA, qB, qC, i64_w]; rfl
         refine zP 8 (some 24) ?_ bA17 rfl rfl HT_ ?_ ?_ ?_ ?_; rotate_left
         ·intro w'; go_simp; (with_reducible rfl)
         rotate_left
         ·simp only [Act.put, qA, qB, qC, i64_w]; rfl
         refine zP 9 (some 25) ?_ bA18 rfl rfl HT_ ?_ ?_ ?_ ?_; rotate_left
         ·intro w'; go_simp; (with_reducible rfl)
         rotate_left
         ·simp only [Act.put, qA, qB, qC, i64_w]; rfl
         refine zP 10 (some 26) ?_ bA19 rfl rfl HT_ ?_ ?_ ?_ ?_; rotate_left
         ·intro w'; go_simp; (with_reducible rfl)
         rotate_left
         ·simp only [Act.put, qA, qB, qC, i64_w]; rfl
         refine zZ 7 (some 23) ?_ bA25 rfl rfl HT_ HW_ ?_ hHeld ?_ ?_ ?_; rotate_left
         ·rintro w' ⟨s0, s1⟩; go_simp; (with_reducible rfl)
         rotate_left
         ·simp only [Act.put, qA, qB, qC, i64_w]; rfl
         refine zZ 11 (some 27) ?_ bA27 rfl rfl HT_ HW_ ?_ hHeld ?_ ?_ ?_; rotate_left
         ·rintro w' ⟨s0, s1⟩; go_simp; (with_reducible rfl)
         rotate_left
         ·simp only [Act.put, qA, qB, qC, i64_w]; rfl
         refine zP 12 (some 28) ?_ bA28 rfl rfl HT_ ?_ ?_ ?_ ?_; rotate_left
         ·intro w'; go_simp; (with_reducible rfl)
         rotate_left
         ·simp only [Act.put, qA, qB, qC, i64_w]; rfl
         refine zP 13 (some 29) ?_ bA29 rfl rfl HT_ ?_ ?_ ?_ ?_; rotate_left
         ·intro w'; go_simp; (with_reducible rfl)
         rotate_left
         ·simp only [Act.put, qA, qB, qC, i64_w]; rfl
         refine done_ (done_of HT_.out (by kernel_rfl)) ?_
         try go_wp2
         replace HO_3 := Aside0.mk (Kd.R_drew HO_3.out); replace HB := Aside0.mk (below_drew1 HB.out); have p235 : 0 ≤ ((ji7) : Int) := of_decide_eq_true (by assumption); have q235 : (ji7) < (x3_1.length : Int) := of_decide_eq_true (by assumption); obtain ⟨ad235, e235, hx235_0⟩ := Kd.at_int (Kd.R_reads' HO_3.out).2.2 (ji7) p235 q235; obtain rfl : ad233 = ad235 := (by injection e235); replace p235 := eq_true p235; replace q235 := eq_true q235; have p236 : 0 ≤ (x4_1 : Int) := of_decide_eq_true (by assumption); have q236 : x4_1 < (l0.length : Int) := of_decide_eq_true (by assumption); obtain ⟨ad236, e236, hx236_0⟩ := Kd.at_int HR0.out x4_1 p236 q236; have hw236_0 := hx236_0; obtain rfl : ad234 = ad236 := (by injection e236); (try replace hx236_0 := (HB.out.cell (World.block_lt_of_cell? w _ hx236_0)).trans hx236_0); replace p236 := eq_true p236; replace q236 := eq_true q236; refine start_ (n := 14) (S := fun w' => w'.cell? (ad233.add ((ji7)).toNat) = some (.int .i64 (rd x3_1 (ji7))) ∧ w'.cell? (ad234.add (x4_1).toNat) = some (.int .i64 (rd l0 x4_1))) (ds := []) bA0 (by kernel_rfl) rfl rfl ⟨hx235_0, ((HB.out.cell (World.block_lt_of_cell? w _ hw236_0)).trans hw236_0)⟩ (fun hHeld => ?_); refine with_tabW spec_SortList.tab8 spec_SortList.bits8 (fun HT_ HW_ => ?_); generalize w15.drew = w16 at HO_3 HB hx235_0 hx236_0 hHeld ⊢; refine zP 0 (some 32) ?_ bA2 rfl rfl HT_ ?_ ?_ ?_ ?_; rotate_left
         ·intro w'; go_simp; (with_reducible rfl)
         rotate_left
         ·simp only [Act.put, qA, qB, qC, i64_w]; rfl
         refine zP 1 (some 33) ?_ bA4 rfl rfl HT_ ?_ ?_ ?_ ?_; rotate_left
         ·intro w'; go_simp; (with_reducible rfl)
         rotate_left
         ·simp only [Act.put, qA, qB, qC, i64_w]; rfl
         refine zP 2 (some 34) ?_ bA6 rfl rfl HT_ ?_ ?_ ?_ ?_; rotate_left
         ·intro w'; go_simp; (with_reducible rfl)
         rotate_left
         ·simp only [Act.put, qA, qB, qC, i64_w]; rfl
         refine zP 3 (some 35) ?_ bA8 rfl rfl HT_ ?_ ?_ ?_ ?_; rotate_left
         ·intro w'; go_simp; (with_reducible rfl)
         rotate_left
         ·simp only [Act.put, qA, qB, qC, i64_w]; rfl
         refine zP 4 (some 36) ?_ bA10 rfl rfl HT_ ?_ ?_ ?_ ?_; rotate_left
         ·intro w'; go_simp; (with_reducible rfl)
         rotate_left
         ·simp only [Act.put, qA, qB, qC, i64_w]; rfl
         refine zP 5 (some 37) ?_ bA12 rfl rfl HT_ ?_ ?_ ?_ ?_; rotate_left
         ·intro w'; go_simp; (with_reducible rfl)
         rotate_left
         ·simp only [Act.put, qA, qB, qC, i64_w]; rfl
         refine zP 6 (some 38) ?_ bA15 rfl rfl HT_ ?_ ?_ ?_ ?_; rotate_left
         ·intro w'; go_simp; (with_reducible rfl)
         rotate_left
         ·simp only [Act.put, qA, qB, qC, i64_w]; rfl
         refine zP 8 (some 40) ?_ bA17 rfl rfl HT_ ?_ ?_ ?_ ?_; rotate_left
         ·intro w'; go_simp; (with_reducible rfl)
         rotate_left
         ·simp only [Act.put, qA, qB, qC, i64_w]; rfl
         refine zP 9 (some 41) ?_ bA18 rfl rfl HT_ ?_ ?_ ?_ ?_; rotate_left
         ·intro w'; go_simp; (with_reducible rfl)
         rotate_left
         ·simp only [Act.put, qA, qB, qC, i64_w]; rfl
         refine zP 10 (some 42) ?_ bA19 rfl rfl HT_ ?_ ?_ ?_ ?_; rotate_left
         ·intro w'; go_simp; (with_reducible rfl)
         rotate_left
         ·simp only [Act.put, qA, qB, qC, i64_w]; rfl
         refine zZ 7 (some 39) ?_ bA25 rfl rfl HT_ HW_ ?_ hHeld ?_ ?_ ?_; rotate_left
         ·rintro w' ⟨s0, s1⟩; go_simp; (with_reducible rfl)
         rotate_left
         ·simp only [Act.put, qA, qB, qC, i64_w]; rfl
         refine zZ 11 (some 43) ?_ bA27 rfl rfl HT_ HW_ ?_ hHeld ?_ ?_ ?_; rotate_left
         ·rintro w' ⟨s0, s1⟩; go_simp; (with_reducible rfl)
         rotate_left
         ·simp only [Act.put, qA, qB, qC, i64_w]; rfl
         refine zP 12 (some 44) ?_ bA28 rfl rfl HT_ ?_ ?_ ?_ ?_; rotate_left
         ·intro w'; go_simp; (with_reducible rfl)
         rotate_left
         ·simp only [Act.put, qA, qB, qC, i64_w]; rfl
         refine zP 13 (some 45) ?_ bA29 rfl rfl HT_ ?_ ?_ ?_ ?_; rotate_left
         ·intro w'; go_simp; (with_reducible rfl)
         rotate_left
         ·simp only [Act.put, qA, qB, qC, i64_w]; rfl
         refine done_ (done_of HT_.out (by kernel_rfl)) ?_
         try go_wp2
         go_roundg k2
         case measure => have := HK1.out; have := HK2.out; omega
         case rel => exact ⟨(x3_1), (wrap64 (x4_1 + 1)), (by first | rfl | (simp; done) | (simp [*]; done)), H', ⟨by have := HK1.out; have := HK2.out; omega⟩, ⟨zR HO_3.out⟩, ⟨zB HB.out⟩⟩
        ·rw [if_neg c14] at H; have c14b0 : ((rd x3_1 (ji7)) == (rd l0 x4_1)) = false := beq_eq_false_iff_ne.mpr c14; have c14b1 : ((rd x3_1 (ji7)) != (rd l0 x4_1)) = true := bne_iff_ne.mpr c14; obtain ⟨y237, hy237⟩ : ∃ y_ : List Int, y_ = (([] : List Int)) := ⟨_, rfl⟩; replace H : (if 0 ≤ x5_2 then (if x5_2 ≤ (x3_1.length : Int) then ((some (x3_1.drop (x5_2 : Int).toNat : List Int)).bind fun y240 => (if y237.length + y240.length < 17592186044416 then ((some (y237 ++ y240 : List Int)).bind fun y244 => ((some (x3_1.take (x5_2 : Int).toNat : List Int)).bind fun y247 => (if y247.length < 17592186044416 then ((some (y247 ++ [rd l0 x4_1] : List Int)).bind fun y251 => (if y251.length + y244.length < 17592186044416 then (spec_SortList.l0 k2 l0 (y251 ++ y244) (wrap64 (x4_1 + 1))) else (none))) else (none)))) else (none))) else (none)) else (none)) = some r := by first | (rw [hy237]; with_reducible exact H) | (have H2_ := (Option.bind_some _ _).symm.trans H; rw [hy237]; with_reducible exact H2_) | (have H2_ := (Option.bind_some _ _).symm.trans H; with_reducible exact H2_) | with_reducible exact H | (rw [hy237]; exact H) | exact H
         have Ny237 := Aside0.mk hy237; clear hy237; obtain ⟨c17, H⟩ := zi H; have c17b0 := eq_true c17; have c17b1 : decide (0 ≤ x5_2) = true := decide_eq_true c17; clear c17; obtain ⟨c18, H⟩ := zi H; have c18b0 := eq_true c18; have c18b1 : decide (x5_2 ≤ (x3_1.length : Int)) = true := decide_eq_true c18; clear c18; obtain ⟨y240, Ny240⟩ : ∃ y_ : List Int, Aside0 (y_ = (x3_1.drop (x5_2 : Int).toNat)) := ⟨_, ⟨rfl⟩⟩; (try rw [Option.bind_some] at H); (try rw [← Ny240.out] at H); obtain ⟨c19, H⟩ := zi H; have LMc19 := Aside0.mk c19; clear c19; obtain ⟨y244, Ny244⟩ : ∃ y_ : List Int, Aside0 (y_ = (y237 ++ y240)) := ⟨_, ⟨rfl⟩⟩; (try rw [Option.bind_some] at H); (try rw [← Ny244.out] at H); have c20b0 := eq_true (of_decide_eq_true (by assumption) : x5_2 ≤ (x3_1.length : Int)); obtain ⟨y247, Ny247⟩ : ∃ y_ : List Int, Aside0 (y_ = (x3_1.take (x5_2 : Int).toNat)) := ⟨_, ⟨rfl⟩⟩; (try rw [Option.bind_some] at H); (try rw [← Ny247.out] at H); obtain ⟨c21, H⟩ := zi H; have LMc21 := Aside0.mk c21; clear c21; obtain ⟨y251, Ny251⟩ : ∃ y_ : List Int, Aside0 (y_ = (y247 ++ [rd l0 x4_1])) := ⟨_, ⟨rfl⟩⟩; (try rw [Option.bind_some] at H); (try rw [← Ny251.out] at H); obtain ⟨c22, H⟩ := zi H; have LMc22 := Aside0.mk c22; clear c22; obtain ⟨y254, Ny254⟩ : ∃ y_ : List Int, Aside0 (y_ = (y251 ++ y244)) := ⟨_, ⟨rfl⟩⟩; (try rw [Option.bind_some] at H); (try rw [← Ny254.out] at H); have H' := Aside0.mk H; clear H
         try go_wp2
         replace HO_3 := Aside0.mk (Kd.R_drew HO_3.out); replace HB := Aside0.mk (below_drew1 HB.out); have p233 : 0 ≤ ((ji7) : Int) := of_decide_eq_true (by assumption); have q233 : (ji7) < (x3_1.length : Int) := of_decide_eq_true (by assumption); obtain ⟨ad233, e233, hx233_0⟩ := Kd.at_int (Kd.R_reads' HO_3.out).2.2 (ji7) p233 q233
         cases e233; replace p233 := eq_true p233; replace q233 := eq_true q233; have p234 : 0 ≤ (x4_1 : Int) := of_decide_eq_true (by assumption); have q234 : x4_1 < (l0.length : Int) := of_decide_eq_true (by assumption); obtain ⟨ad234, e234, hx234_0⟩ := Kd.at_int HR0.out x4_1 p234 q234; have hw234_0 := hx234_0
         cases e234; (try replace hx234_0 := (HB.out.cell (World.block_lt_of_cell? w _ hx234_0)).trans hx234_0); replace p234 := eq_true p234; replace q234 := eq_true q234; refine start_ (n := 14) (S := fun w' => w'.cell? (ad233.add ((ji7)).toNat) = some (.int .i64 (rd x3_1 (ji7))) ∧ w'.cell? (ad234.add (x4_1).toNat) = some (.int .i64 (rd l0 x4_1))) (ds := []) bA0 (by kernel_rfl) rfl rfl ⟨hx233_0, ((HB.out.cell (World.block_lt_of_cell? w _ hw234_0)).trans hw234_0)⟩ (fun hHeld => ?_); refine with_tabW spec_SortList.tab6 spec_SortList.bits6 (fun HT_ HW_ => ?_); generalize wr.drew = w23 at HO_3 HB hx233_0 hx234_0 hHeld ⊢; refine zP 0 (some 16) ?_ bA2 rfl rfl HT_ ?_ ?_ ?_ ?_; rotate_left
         ·intro w'; go_simp; (with_reducible rfl)
         rotate_left
         ·simp only [Act.put, qA, qB, qC, i64_w]; rfl
         refine zP 1 (some 17) ?_ bA4 rfl rfl HT_ ?_ ?_ ?_ ?_; rotate_left
         ·intro w'; go_simp; (with_reducible rfl)
         rotate_left
         ·simp only [Act.put, qA, qB, qC, i64_w]; rfl
         refine zP 2 (some 18) ?_ bA6 rfl rfl HT_ ?_ ?_ ?_ ?_; rotate_left
         ·intro w'; go_simp; (with_reducible rfl)
         rotate_left
         ·simp only [Act.put, qA, qB, qC, i64_w]; rfl
         refine zP 3 (some 19) ?_ bA8 rfl rfl HT_ ?_ ?_ ?_ ?_; rotate_left
         ·intro w'; go_simp; (with_reducible rfl)
         rotate_left
         ·simp only [Act.put, qA, qB, qC, i64_w]; rfl
         refine zP 4 (some 20) ?_ bA10 rfl rfl HT_ ?_ ?_ ?_ ?_; rotate_left
         ·intro w'; go_simp; (with_reducible rfl)
         rotate_left
         ·simp only [Act.put, qA, qB, qC, i64_w]; rfl
         refine zP 5 (some 21) ?_ bA12 rfl rfl HT_ ?_ ?_ ?_ ?_; rotate_left
         ·intro w'; go_simp; (with_reducible rfl)
         rotate_left
         ·simp only [Act.put, qA, qB, qC, i64_w]; rfl
         refine zP 6 (some 22) ?_ bA15 rfl rfl HT_ ?_ ?_ ?_ ?_; rotate_left
         ·intro w'; go_simp; (with_reducible rfl)
         rotate_left
         ·simp only [Act.put, qA, qB, qC, i64_w]; rfl
         refine zP 8 (some 24) ?_ bA17 rfl rfl HT_ ?_ ?_ ?_ ?_; rotate_left
         ·intro w'; go_simp; (with_reducible rfl)
         rotate_left
         ·simp only [Act.put, qA, qB, qC, i64_w]; rfl
         refine zP 9 (some 25) ?_ bA18 rfl rfl HT_ ?_ ?_ ?_ ?_; rotate_left
         ·intro w'; go_simp; (with_reducible rfl)
         rotate_left
         ·simp only [Act.put, qA, qB, qC, i64_w]; rfl
         refine zP 10 (some 26) ?_ bA19 rfl rfl HT_ ?_ ?_ ?_ ?_; rotate_left
         ·intro w'; go_simp; (with_reducible rfl)
         rotate_left
         ·simp only [Act.put, qA, qB, qC, i64_w]; rfl
         refine zZ 7 (some 23) ?_ bA25 rfl rfl HT_ HW_ ?_ hHeld ?_ ?_ ?_; rotate_left
         ·rintro w' ⟨s0, s1⟩; go_simp; (with_reducible rfl)
         rotate_left
         ·simp only [Act.put, qA, qB, qC, i64_w]; rfl
         refine zZ 11 (some 27) ?_ bA27 rfl rfl HT_ HW_ ?_ hHeld ?_ ?_ ?_; rotate_left
         ·rintro w' ⟨s0, s1⟩; go_simp; (with_reducible rfl)
         rotate_left
         ·simp only [Act.put, qA, qB, qC, i64_w]; rfl
         refine zP 12 (some 28) ?_ bA28 rfl rfl HT_ ?_ ?_ ?_ ?_; rotate_left
         ·intro w'; go_simp; (with_reducible rfl)
         rotate_left
         ·simp only [Act.put, qA, qB, qC, i64_w]; rfl
         refine zP 13 (some 29) ?_ bA29 rfl rfl HT_ ?_ ?_ ?_ ?_; rotate_left
         ·intro w'; go_simp; (with_reducible rfl)
         rotate_left
         ·simp only [Act.put, qA, qB, qC, i64_w]; rfl
         refine done_ (done_of HT_.out (by kernel_rfl)) ?_
         try go_wp2
         replace HO_3 := Aside0.mk (Kd.R_drew HO_3.out); replace HB := Aside0.mk (below_drew1 HB.out); have p235 : 0 ≤ ((ji7) : Int) := of_decide_eq_true (by assumption); have q235 : (ji7) < (x3_1.length : Int) := of_decide_eq_true (by assumption); obtain ⟨ad235, e235, hx235_0⟩ := Kd.at_int (Kd.R_reads' HO_3.out).2.2 (ji7) p235 q235; obtain rfl : ad233 = ad235 := (by injection e235); replace p235 := eq_true p235; replace q235 := eq_true q235; have p236 : 0 ≤ (x4_1 : Int) := of_decide_eq_true (by assumption); have q236 : x4_1 < (l0.length : Int) := of_decide_eq_true (by assumption); obtain ⟨ad236, e236, hx236_0⟩ := Kd.at_int HR0.out x4_1 p236 q236; have hw236_0 := hx236_0; obtain rfl : ad234 = ad236 := (by injection e236); (try replace hx236_0 := (HB.out.cell (World.block_lt_of_cell? w _ hx236_0)).trans hx236_0); replace p236 := eq_true p236; replace q236 := eq_true q236; refine start_ (n := 14) (S := fun w' => w'.cell? (ad233.add ((ji7)).toNat) = some (.int .i64 (rd x3_1 (ji7))) ∧ w'.cell? (ad234.add (x4_1).toNat) = some (.int .i64 (rd l0 x4_1))) (ds := []) bA0 (by kernel_rfl) rfl rfl ⟨hx235_0, ((HB.out.cell (World.block_lt_of_cell? w _ hw236_0)).trans hw236_0)⟩ (fun hHeld => ?_); refine with_tabW spec_SortList.tab8 spec_SortList.bits8 (fun HT_ HW_ => ?_); generalize w23.drew = w24 at HO_3 HB hx235_0 hx236_0 hHeld ⊢; refine zP 0 (some 32) ?_ bA2 rfl rfl HT_ ?_ ?_ ?_ ?_; rotate_left
         ·intro w'; go_simp; (with_reducible rfl)
         rotate_left
         ·simp only [Act.put, qA, qB, qC, i64_w]; rfl
         refine zP 1 (some 33) ?_ bA4 rfl rfl HT_ ?_ ?_ ?_ ?_; rotate_left
         ·intro w'; go_simp; (with_reducible rfl)
         rotate_left
         ·simp only [Act.put, qA, qB, qC, i64_w]; rfl
         refine zP 2 (some 34) ?_ bA6 rfl rfl HT_ ?_ ?_ ?_ ?_; rotate_left
         ·intro w'; go_simp; (with_reducible rfl)
         rotate_left
         ·simp only [Act.put, qA, qB, qC, i64_w]; rfl
         refine zP 3 (some 35) ?_ bA8 rfl rfl HT_ ?_ ?_ ?_ ?_; rotate_left
         ·intro w'; go_simp; (with_reducible rfl)
         rotate_left
         ·simp only [Act.put, qA, qB, qC, i64_w]; rfl
         refine zP 4 (some 36) ?_ bA10 rfl rfl HT_ ?_ ?_ ?_ ?_; rotate_left
         ·intro w'; go_simp; (with_reducible rfl)
         rotate_left
         ·simp only [Act.put, qA, qB, qC, i64_w]; rfl
         refine zP 5 (some 37) ?_ bA12 rfl rfl HT_ ?_ ?_ ?_ ?_; rotate_left
         ·intro w'; go_simp; (with_reducible rfl)
         rotate_left
         ·simp only [Act.put, qA, qB, qC, i64_w]; rfl
         refine zP 6 (some 38) ?_ bA15 rfl rfl HT_ ?_ ?_ ?_ ?_; rotate_left
         ·intro w'; go_simp; (with_reducible rfl)
         rotate_left
         ·simp only [Act.put, qA, qB, qC, i64_w]; rfl
         refine zP 8 (some 40) ?_ bA17 rfl rfl HT_ ?_ ?_ ?_ ?_; rotate_left
         ·intro w'; go_simp; (with_reducible rfl)
         rotate_left
         ·simp only [Act.put, qA, qB, qC, i64_w]; rfl
         refine zP 9 (some 41) ?_ bA18 rfl rfl HT_ ?_ ?_ ?_ ?_; rotate_left
         ·intro w'; go_simp; (with_reducible rfl)
         rotate_left
         ·simp only [Act.put, qA, qB, qC, i64_w]; rfl
         refine zP 10 (some 42) ?_ bA19 rfl rfl HT_ ?_ ?_ ?_ ?_; rotate_left
         ·intro w'; go_simp; (with_reducible rfl)
         rotate_left
         ·simp only [Act.put, qA, qB, qC, i64_w]; rfl
         refine zZ 7 (some 39) ?_ bA25 rfl rfl HT_ HW_ ?_ hHeld ?_ ?_ ?_; rotate_left
         ·rintro w' ⟨s0, s1⟩; go_simp; (with_reducible rfl)
         rotate_left
         ·simp only [Act.put, qA, qB, qC, i64_w]; rfl
         refine zZ 11 (some 43) ?_ bA27 rfl rfl HT_ HW_ ?_ hHeld ?_ ?_ ?_; rotate_left
         ·rintro w' ⟨s0, s1⟩; go_simp; (with_reducible rfl)
         rotate_left
         ·simp only [Act.put, qA, qB, qC, i64_w]; rfl
         refine zP 12 (some 44) ?_ bA28 rfl rfl HT_ ?_ ?_ ?_ ?_; rotate_left
         ·intro w'; go_simp; (with_reducible rfl)
         rotate_left
         ·simp only [Act.put, qA, qB, qC, i64_w]; rfl
         refine zP 13 (some 45) ?_ bA29 rfl rfl HT_ ?_ ?_ ?_ ?_; rotate_left
         ·intro w'; go_simp; (with_reducible rfl)
         rotate_left
         ·simp only [Act.put, qA, qB, qC, i64_w]; rfl
         refine done_ (done_of HT_.out (by kernel_rfl)) ?_
         try go_wp2_with (first | ((with_reducible refine gate_dst (N := 46) rfl ?_); refine Kd.R_lit (Kd.int .i64) _ 3 ?hg (N := 46) ?hd (xs := ([] : List Int)) (inner := []) (ok := fun _ => True) (okp := fun _ => True) ?hr ?hp (fun _ hk => hk) trivial (Below.refl _ _) (Nat.le_refl _) (by simp) ?_; (case hd => rfl); (case hg => rfl); (case hr => first | (go_simp; done) | (go_simp; rfl)); (case hp => exact (Reps.none _ _)); intro v238 w25 ho26 hb hg_ hnew_; clear hg_ hnew_; (first | rw [← Ny237.out] at ho26 | (simp only [Int.reduceToNat] at ho26; rw [← Ny237.out] at ho26)); have HO239 := Aside0.mk (Kd.R_lower (Kd.R_new' ho26 (Kd.R_lt (zR HO_3.out))) (zS HB.out)); replace HO_3 := Aside0.mk (Kd.R_elder' (zR HO_3.out) (Kd.R_base ho26) hb); replace HB := Aside0.mk (below_step (zB HB.out) hb); clear hb ho26; have q27 : (x5_2 : Int) ≤ ((x3_1.length : Int) : Int) := of_decide_eq_true (by assumption); obtain ⟨i027, hi027, _, hsz27, _⟩ := info_parts info3; have hroom27 : x3_1.length ≤ co5 := (Kd.R_reads' HO_3.out).2.1; have hC27 : Kd.C (Kd.int .i64) _ (some ad233) x3_1.length x3_1 := (Kd.R_reads' HO_3.out).2.2; have q027 : (0 : Int) ≤ (x5_2 : Int) := of_decide_eq_true (by assumption); have hcut27 := cut_from (P := Tryz.prog) 27 3 .i64 Tryz.underlying27 hi027 1 hsz27 (some ad233) x3_1.length co5 x5_2 q027 q27; have hr27 := Kd.C_drop (m := (x5_2 : Int).toNat) (c := co5) hC27 (by omega) hroom27; obtain ⟨A27, hA27⟩ : ∃ A1, A1 = (if co5 = (x5_2 : Int).toNat then (some ad233) else ((some ad233) : Option Addr).map (·.add ((x5_2 : Int).toNat * 1))) := ⟨_, rfl⟩; obtain ⟨c27, hc27⟩ : ∃ c1, c1 = co5 - (x5_2 : Int).toNat := ⟨_, rfl⟩; have hy27 : y240.length = x3_1.length - (x5_2 : Int).toNat := (by rw [Ny240.out, List.length_drop] <;> omega); rw [show (x3_1).drop (x5_2 : Int).toNat = y240 from Ny240.out.symm] at hr27; replace hr27 : Kd.C (Kd.int .i64) _ A27 y240.length y240 := (by rw [hA27]; exact hr27); rw [← hy27, ← hA27, ← hc27] at hcut27; have HR243 := Aside0.mk hr27; have HC243 := Aside0.mk (show y240.length ≤ c27 from by rw [hy27, hc27]; exact Nat.sub_le_sub_right hroom27 _); clear hr27 hC27 hroom27 hi027 hsz27 hc27; have KY27 := Aside0.mk hy27; have KA27 := Aside0.mk hA27; clear hy27 hA27; have KL27 := Aside0.mk (show (x5_2 : Int).toNat ≤ x3_1.length from by omega); replace q27 := eq_true q27) | ((with_reducible refine gate_builtin (b := .append) (xs := #[.tmp 46, .tmp 49]) rfl ?_); at_builtin; refine Kd.R_append_rows (Kd.int .i64) (w0 := w) w.heap.size rfl (.tmp 46) (.tmp 49) 27 3 (.int .i64 0) 8 rfl Tryz.underlying27 info3 rfl (by decide) (by omega) v238 y237 y240 _ _ _ (fun k_ => some k_ ≠ (.slice (some ad233) x3_1.length co5 : Value).ownBlock) (fun _ => False) rfl rfl ?aO ?aR (fun _ _ h => h) (fun _ h => h.elim) ?aF ?aB ?aS ?aL ?_; (case aR => repeat (first | exact (zC HR243.out) | (with_reducible refine Kd.C_alloc ?_ _) | (with_reducible refine Kd.C_drewN ?_ _) | (with_reducible refine Kd.C_drew ?_))); (case aB => exact (zB HB.out)); (case aF => exact (fun k_ hk => Kd.fresh' (Kd.R_lt (zR HO_3.out)) k_ hk)); (case aO => exact (zR (Kd.R_mono HO239.out (fun _ hk => hk.2)))); (case aS => exact (zS HB.out)); (case aL => have := LMc19.out; omega); intro v245 w28 ho hb hg hat; rw [← Ny244.out] at ho; replace HB := Aside0.mk (hb); replace HR243 := Aside0.mk ((show Kd.C (Kd.int .i64) w28 A27 y240.length y240 from by rw [Ny240.out, KA27.out]; exact Kd.C_drop (m := (x5_2 : Int).toNat) (c := co5) ((Kd.R_reads' (Kd.R_after (ok := (fun _ => True)) (zR HO_3.out) hg hat)).2.2) KL27.out ((Kd.R_reads' (Kd.R_after (ok := (fun _ => True)) (zR HO_3.out) hg hat)).2.1))); replace HO_3 := Aside0.mk (Kd.R_after (ok := (fun _ => True)) (zR HO_3.out) hg hat); have HO246 := Aside0.mk (ho); clear HO239; clear ho hb hg hat))
         replace HO_3 := Aside0.mk (Kd.R_drew HO_3.out); replace HO246 := Aside0.mk (Kd.R_drew HO246.out); replace HR243 := Aside0.mk (Kd.C_drew HR243.out); replace HB := Aside0.mk (below_drew1 HB.out); have q30 : (x5_2 : Int) ≤ ((x3_1.length : Int) : Int) := of_decide_eq_true (by assumption); obtain ⟨i030, hi030, _, hsz30, _⟩ := info_parts info3; have hcut30 := cut_to (P := Tryz.prog) 27 3 .i64 Tryz.underlying27 hi030 (some ad233) x3_1.length co5 x5_2 (of_decide_eq_true (by assumption)) q30 (Kd.R_reads' HO_3.out).2.1; have hr30 := Kd.R_take (m := (x5_2 : Int).toNat) HO_3.out (by omega); have hy30 : y247.length = (x5_2 : Int).toNat := (by rw [Ny247.out, List.length_take]; omega); rw [← Ny247.out] at hr30; rw [← hy30] at hr30 hcut30; clear hy30 hi030 hsz30 HO_3; have HO249 := Aside0.mk hr30; clear hr30; replace q30 := eq_true q30; have p250 : 0 ≤ (x4_1 : Int) := of_decide_eq_true (by assumption); have q250 : x4_1 < (l0.length : Int) := of_decide_eq_true (by assumption); obtain ⟨ad250, e250, hx250_0⟩ := Kd.at_int HR0.out x4_1 p250 q250; have hw250_0 := hx250_0; obtain rfl : ad234 = ad250 := (by injection e250); (try replace hx250_0 := (HB.out.cell (World.block_lt_of_cell? w _ hx250_0)).trans hx250_0); replace p250 := eq_true p250; replace q250 := eq_true q250; refine start_ (n := 12) (S := fun w' => w'.cell? (ad234.add (x4_1).toNat) = some (.int .i64 (rd l0 x4_1))) (ds := []) bA1 (by kernel_rfl) rfl rfl (((HB.out.cell (World.block_lt_of_cell? w _ hw250_0)).trans hw250_0)) (fun hHeld => ?_); refine with_tabW spec_SortList.tab10 spec_SortList.bits10 (fun HT_ HW_ => ?_); generalize w28.drew = w29 at HO_3 HO246 HR243 HB HO249 hx250_0 hHeld ⊢; refine zP 0 (some 51) ?_ bA3 rfl rfl HT_ ?_ ?_ ?_ ?_; rotate_left
         ·intro w'; go_simp; (with_reducible rfl)
         rotate_left
         ·simp only [Act.put, qA, qB, qC, i64_w]; rfl
         refine zP 1 (some 52) ?_ bA5 rfl rfl HT_ ?_ ?_ ?_ ?_; rotate_left
         ·intro w'; go_simp; (with_reducible rfl)
         rotate_left
         ·simp only [Act.put, qA, qB, qC, i64_w]; rfl
         refine zP 2 (some 53) ?_ bA7 rfl rfl HT_ ?_ ?_ ?_ ?_; rotate_left
         ·intro w'; go_simp; (with_reducible rfl)
         rotate_left
         ·simp only [Act.put, qA, qB, qC, i64_w]; rfl
         refine zP 3 (some 54) ?_ bA9 rfl rfl HT_ ?_ ?_ ?_ ?_; rotate_left
         ·intro w'; go_simp; (with_reducible rfl)
         rotate_left
         ·simp only [Act.put, qA, qB, qC, i64_w]; rfl
         refine zP 4 (some 55) ?_ bA11 rfl rfl HT_ ?_ ?_ ?_ ?_; rotate_left
         ·intro w'; go_simp; (with_reducible rfl)
         rotate_left
         ·simp only [Act.put, qA, qB, qC, i64_w]; rfl
         refine zP 5 (some 56) ?_ bA13 rfl rfl HT_ ?_ ?_ ?_ ?_; rotate_left
         ·intro w'; go_simp; (with_reducible rfl)
         rotate_left
         ·simp only [Act.put, qA, qB, qC, i64_w]; rfl
         refine zP 9 (some 60) ?_ bA14 rfl rfl HT_ ?_ ?_ ?_ ?_; rotate_left
         ·intro w'; go_simp; (with_reducible rfl)
         rotate_left
         ·simp only [Act.put, qA, qB, qC, i64_w]; rfl
         refine zZ 6 (some 57) ?_ bA16 rfl rfl HT_ HW_ ?_ hHeld ?_ ?_ ?_; rotate_left
         ·intro w' s0; go_simp; (with_reducible rfl)
         rotate_left
         ·simp only [Act.put, qA, qB, qC, i64_w]; rfl
         refine one_ (i := 7) (N := some 58) bA21 rfl rfl (one_of HT_.out (by kernel_rfl)) (by decide) (fun K hK => ?_); refine value_ (w1 := ?_) (v := ?_) (by rfl) rfl ?_ ?_; rotate_left 2
         ·go_simp; constructor
          ·rfl
          ·rfl
         refine hK.out _ _ ((World.cell?_alloc_lt _ _ _ (World.block_lt_of_cell? _ _ (((HB.out.cell (World.block_lt_of_cell? w _ hw250_0)).trans hw250_0)))).trans (((HB.out.cell (World.block_lt_of_cell? w _ hw250_0)).trans hw250_0))) (fun hHeld => ?_); clear hK K; refine norm_ (a' := ?_) ?_ ?_; rotate_left
         ·show Act.put _ (some 58) _ = _; simp only [Act.put, qA, qB, qC, i64_w]; rfl
         refine one_ (i := 8) (N := some 59) bA24 rfl rfl (one_of HT_.out (by kernel_rfl)) (by decide) (fun K hK => ?_); refine Kd.R_append_step (Kd.int .i64) (w0 := w) w.heap.size (by rfl) (.tmp 53) (.tmp 58) 27 3 (.int .i64 0) 8 rfl Tryz.underlying27 info3 rfl (by decide) (by omega) (.slice (some ad233) y247.length co5) y247 (rd l0 x4_1) [.int .i64 (rd l0 x4_1)] (fun k_ => some k_ ≠ (v245 : Value).ownBlock) (fun _ => False) rfl rfl ?aP (fun _ hk => hk.elim) ?aF ?aO ?aB ?aS ?aL ?_; (case aP => exact rfl); (case aB => exact (zB HB.out)); (case aF => exact (fun k_ hk => Kd.fresh' (Kd.R_lt (zR HO246.out)) k_ hk)); (case aO => exact (zR (Kd.R_mono HO249.out (fun _ hk => hk.2)))); (case aS => exact (zS HB.out)); (case aL => have := LMc21.out; omega); intro v252 w31 ho hb hg hat; rw [← Ny251.out] at ho; replace HO246 := Aside0.mk (Kd.R_after (ok := (fun _ => True)) (zR (Kd.R_mono HO246.out (fun _ hk => ⟨trivial, by first | exact hk | (rw [qO] at hk ⊢; exact hk)⟩))) hg hat); replace HB := Aside0.mk (hb); have HO253 := Aside0.mk (ho); clear HO249; clear ho hb hg hat; obtain ⟨Ao33, co33, eo33⟩ := Kd.R_slice HO246.out; (first | subst eo33 | (injection eo33 with f1_ f2_ f3_; have f4_ := f1_.symm; have f5_ := f3_.symm; clear f1_ f2_ f3_; subst f4_; subst f5_)); refine hK.out _ _ (((HB.out.cell (World.block_lt_of_cell? w _ hw250_0)).trans hw250_0)) (fun hHeld => ?_); clear hK K; refine norm_ (a' := ?_) ?_ ?_; rotate_left
         ·show Act.put _ (some 59) _ = _; simp only [Act.put, qA, qB, qC, i64_w]; rfl
         refine one_ (i := 10) (N := some 61) bA26 rfl rfl (one_of HT_.out (by kernel_rfl)) (by decide) (fun K hK => ?_); refine Kd.R_append_rows_step (Kd.int .i64) (w0 := w) w.heap.size (by rfl) (.tmp 59) (.tmp 60) 27 3 (.int .i64 0) 8 rfl Tryz.underlying27 info3 rfl (by decide) (by omega) v252 y251 y244 _ _ _ (fun k_ => some k_ ≠ (.slice Ao33 y244.length co33 : Value).ownBlock) (fun _ => False) rfl rfl ?aO ?aR (fun _ _ h => h) (fun _ h => h.elim) ?aF ?aB ?aS ?aL ?_; (case aR => repeat (first | exact (Kd.R_reads' HO246.out).2.2 | (with_reducible refine Kd.C_alloc ?_ _) | (with_reducible refine Kd.C_drewN ?_ _) | (with_reducible refine Kd.C_drew ?_))); (case aB => exact (zB HB.out)); (case aF => exact (fun k_ hk => Kd.fresh' (Kd.R_lt (zR HO246.out)) k_ hk)); (case aO => exact (zR HO253.out)); (case aS => exact (zS HB.out)); (case aL => have := LMc22.out; omega); intro v255 w32 ho hb hg hat; rw [← Ny254.out] at ho; replace HO246 := Aside0.mk (Kd.R_after (ok := (fun _ => True)) (zR HO246.out) hg hat); replace HB := Aside0.mk (hb); have HO256 := Aside0.mk (ho); clear HO253; clear ho hb hg hat; refine hK.out _ _ (((HB.out.cell (World.block_lt_of_cell? w _ hw250_0)).trans hw250_0)) (fun hHeld => ?_); clear hK K; refine norm_ (a' := ?_) ?_ ?_; rotate_left
         ·show Act.put _ (some 61) _ = _; simp only [Act.put, qA, qB, qC, i64_w]; rfl
         refine zP 11 (some 3) ?_ bA30 rfl rfl HT_ ?_ ?_ ?_ ?_; rotate_left
         ·intro w'; go_simp; (with_reducible rfl)
         rotate_left
         ·simp only [Act.put, qA, qB, qC, i64_w]; rfl
         refine done_ (done_of HT_.out (by kernel_rfl)) ?_
         try go_wp2
         go_roundg k2
         case measure => have := HK1.out; have := HK2.out; omega
         case rel => exact ⟨(y254), (wrap64 (x4_1 + 1)), (by first | rfl | (simp; done) | (simp [*]; done)), H', ⟨by have := HK1.out; have := HK2.out; omega⟩, ⟨zR (Kd.R_mono HO256.out (fun _ hk => trivial))⟩, ⟨zB HB.out⟩⟩
      ·rw [if_neg c6] at H; have c6b0 : decide (0 < x5_2) = false := decide_eq_false c6; clear c6; obtain ⟨y257, hy257⟩ : ∃ y_ : List Int, y_ = (([] : List Int)) := ⟨_, rfl⟩; replace H : (if 0 ≤ x5_2 then (if x5_2 ≤ (x3_1.length : Int) then ((some (x3_1.drop (x5_2 : Int).toNat : List Int)).bind fun y260 => (if y257.length + y260.length < 17592186044416 then ((some (y257 ++ y260 : List Int)).bind fun y264 => ((some (x3_1.take (x5_2 : Int).toNat : List Int)).bind fun y267 => (if 0 ≤ x4_1 then (if x4_1 < (l0.length : Int) then (if y267.length < 17592186044416 then ((some (y267 ++ [rd l0 x4_1] : List Int)).bind fun y271 => (if y271.length + y264.length < 17592186044416 then (spec_SortList.l0 k2 l0 (y271 ++ y264) (wrap64 (x4_1 + 1))) else (none))) else (none)) else (none)) else (none)))) else (none))) else (none)) else (none)) = some r := by first | (rw [hy257]; with_reducible exact H) | (have H2_ := (Option.bind_some _ _).symm.trans H; rw [hy257]; with_reducible exact H2_) | (have H2_ := (Option.bind_some _ _).symm.trans H; with_reducible exact H2_) | with_reducible exact H | (rw [hy257]; exact H) | exact H
       have Ny257 := Aside0.mk hy257; clear hy257; obtain ⟨c34, H⟩ := zi H; have c34b0 := eq_true c34; have c34b1 : decide (0 ≤ x5_2) = true := decide_eq_true c34; clear c34; obtain ⟨c35, H⟩ := zi H; have c35b0 := eq_true c35; have c35b1 : decide (x5_2 ≤ (x3_1.length : Int)) = true := decide_eq_true c35; clear c35; obtain ⟨y260, Ny260⟩ : ∃ y_ : List Int, Aside0 (y_ = (x3_1.drop (x5_2 : Int).toNat)) := ⟨_, ⟨rfl⟩⟩; (try rw [Option.bind_some] at H); (try rw [← Ny260.out] at H); obtain ⟨c36, H⟩ := zi H; have LMc36 := Aside0.mk c36; clear c36; obtain ⟨y264, Ny264⟩ : ∃ y_ : List Int, Aside0 (y_ = (y257 ++ y260)) := ⟨_, ⟨rfl⟩⟩; (try rw [Option.bind_some] at H); (try rw [← Ny264.out] at H); have c37b0 := eq_true (of_decide_eq_true (by assumption) : x5_2 ≤ (x3_1.length : Int)); obtain ⟨y267, Ny267⟩ : ∃ y_ : List Int, Aside0 (y_ = (x3_1.take (x5_2 : Int).toNat)) := ⟨_, ⟨rfl⟩⟩; (try rw [Option.bind_some] at H); (try rw [← Ny267.out] at H); obtain ⟨c38, H⟩ := zi H; have c38b0 : decide (0 ≤ x4_1) = true := decide_eq_true c38; clear c38; obtain ⟨c39, H⟩ := zi H; have c39b0 : decide (x4_1 < (l0.length : Int)) = true := decide_eq_true c39; clear c39; obtain ⟨c40, H⟩ := zi H; have LMc40 := Aside0.mk c40; clear c40; obtain ⟨y271, Ny271⟩ : ∃ y_ : List Int, Aside0 (y_ = (y267 ++ [rd l0 x4_1])) := ⟨_, ⟨rfl⟩⟩; (try rw [Option.bind_some] at H); (try rw [← Ny271.out] at H); obtain ⟨c41, H⟩ := zi H; have LMc41 := Aside0.mk c41; clear c41; obtain ⟨y274, Ny274⟩ : ∃ y_ : List Int, Aside0 (y_ = (y271 ++ y264)) := ⟨_, ⟨rfl⟩⟩; (try rw [Option.bind_some] at H); (try rw [← Ny274.out] at H); have H' := Aside0.mk H; clear H
       try go_wp2
       replace HO_3 := Aside0.mk (Kd.R_drew HO_3.out); replace HB := Aside0.mk (below_drew1 HB.out); refine start_ (n := 14) (S := fun w' => True) (ds := []) bA0 (by kernel_rfl) rfl rfl trivial (fun hHeld => ?_); refine with_tabW spec_SortList.tab6 spec_SortList.bits6 (fun HT_ HW_ => ?_); generalize wr.drew = w42 at HO_3 HB hHeld ⊢; refine zP 0 (some 16) ?_ bA2 rfl rfl HT_ ?_ ?_ ?_ ?_; rotate_left
       ·intro w'; go_simp; (with_reducible rfl)
       rotate_left
       ·simp only [Act.put, qA, qB, qC, i64_w]; rfl
       refine zP 1 (some 17) ?_ bA4 rfl rfl HT_ ?_ ?_ ?_ ?_; rotate_left
       ·intro w'; go_simp; (with_reducible rfl)
       rotate_left
       ·simp only [Act.put, qA, qB, qC, i64_w]; rfl
       refine zP 2 (some 18) ?_ bA6 rfl rfl HT_ ?_ ?_ ?_ ?_; rotate_left
       ·intro w'; go_simp; (with_reducible rfl)
       rotate_left
       ·simp only [Act.put, qA, qB, qC, i64_w]; rfl
       refine zU 3 (some 19) bA8 rfl rfl HT_ ?_ ?_ ?_; rotate_left
       ·simp only [Act.put, qA, qB, qC, i64_w]; rfl
       refine zU 4 (some 20) bA10 rfl rfl HT_ ?_ ?_ ?_; rotate_left
       ·simp only [Act.put, qA, qB, qC, i64_w]; rfl
       refine zU 5 (some 21) bA12 rfl rfl HT_ ?_ ?_ ?_; rotate_left
       ·simp only [Act.put, qA, qB, qC, i64_w]; rfl
       refine zU 6 (some 22) bA15 rfl rfl HT_ ?_ ?_ ?_; rotate_left
       ·simp only [Act.put, qA, qB, qC, i64_w]; rfl
       refine zU 7 (some 23) bA20 rfl rfl HT_ ?_ ?_ ?_; rotate_left
       ·simp only [Act.put, qA, qB, qC, i64_w]; rfl
       refine zU 8 (some 24) bA22 rfl rfl HT_ ?_ ?_ ?_; rotate_left
       ·simp only [Act.put, qA, qB, qC, i64_w]; rfl
       refine zU 9 (some 25) bA23 rfl rfl HT_ ?_ ?_ ?_; rotate_left
       ·simp only [Act.put, qA, qB, qC, i64_w]; rfl
       refine zU 10 (some 26) bA25 rfl rfl HT_ ?_ ?_ ?_; rotate_left
       ·simp only [Act.put, qA, qB, qC, i64_w]; rfl
       refine zU 11 (some 27) bA27 rfl rfl HT_ ?_ ?_ ?_; rotate_left
       ·simp only [Act.put, qA, qB, qC, i64_w]; rfl
       refine zU 12 (some 28) bA28 rfl rfl HT_ ?_ ?_ ?_; rotate_left
       ·simp only [Act.put, qA, qB, qC, i64_w]; rfl
       refine zP 13 (some 29) ?_ bA29 rfl rfl HT_ ?_ ?_ ?_ ?_; rotate_left
       ·intro w'; go_simp; (with_reducible rfl)
       rotate_left
       ·simp only [Act.put, qA, qB, qC, i64_w]; rfl
       refine done_ (done_of HT_.out (by kernel_rfl)) ?_
       try go_wp2
       replace HO_3 := Aside0.mk (Kd.R_drew HO_3.out); replace HB := Aside0.mk (below_drew1 HB.out); refine start_ (n := 14) (S := fun w' => True) (ds := []) bA0 (by kernel_rfl) rfl rfl trivial (fun hHeld => ?_); refine with_tabW spec_SortList.tab8 spec_SortList.bits8 (fun HT_ HW_ => ?_); generalize w42.drew = w43 at HO_3 HB hHeld ⊢; refine zP 0 (some 32) ?_ bA2 rfl rfl HT_ ?_ ?_ ?_ ?_; rotate_left
       ·intro w'; go_simp; (with_reducible rfl)
       rotate_left
       ·simp only [Act.put, qA, qB, qC, i64_w]; rfl
       refine zP 1 (some 33) ?_ bA4 rfl rfl HT_ ?_ ?_ ?_ ?_; rotate_left
       ·intro w'; go_simp; (with_reducible rfl)
       rotate_left
       ·simp only [Act.put, qA, qB, qC, i64_w]; rfl
       refine zP 2 (some 34) ?_ bA6 rfl rfl HT_ ?_ ?_ ?_ ?_; rotate_left
       ·intro w'; go_simp; (with_reducible rfl)
       rotate_left
       ·simp only [Act.put, qA, qB, qC, i64_w]; rfl
       refine zU 3 (some 35) bA8 rfl rfl HT_ ?_ ?_ ?_; rotate_left
       ·simp only [Act.put, qA, qB, qC, i64_w]; rfl
       refine zU 4 (some 36) bA10 rfl rfl HT_ ?_ ?_ ?_; rotate_left
       ·simp only [Act.put, qA, qB, qC, i64_w]; rfl
       refine zU 5 (some 37) bA12 rfl rfl HT_ ?_ ?_ ?_; rotate_left
       ·simp only [Act.put, qA, qB, qC, i64_w]; rfl
       refine zU 6 (some 38) bA15 rfl rfl HT_ ?_ ?_ ?_; rotate_left
       ·simp only [Act.put, qA, qB, qC, i64_w]; rfl
       refine zU 7 (some 39) bA20 rfl rfl HT_ ?_ ?_ ?_; rotate_left
       ·simp only [Act.put, qA, qB, qC, i64_w]; rfl
       refine zU 8 (some 40) bA22 rfl rfl HT_ ?_ ?_ ?_; rotate_left
       ·simp only [Act.put, qA, qB, qC, i64_w]; rfl
       refine zU 9 (some 41) bA23 rfl rfl HT_ ?_ ?_ ?_; rotate_left
       ·simp only [Act.put, qA, qB, qC, i64_w]; rfl
       refine zU 10 (some 42) bA25 rfl rfl HT_ ?_ ?_ ?_; rotate_left
       ·simp only [Act.put, qA, qB, qC, i64_w]; rfl
       refine zU 11 (some 43) bA27 rfl rfl HT_ ?_ ?_ ?_; rotate_left
       ·simp only [Act.put, qA, qB, qC, i64_w]; rfl
       refine zU 12 (some 44) bA28 rfl rfl HT_ ?_ ?_ ?_; rotate_left
       ·simp only [Act.put, qA, qB, qC, i64_w]; rfl
       refine zP 13 (some 45) ?_ bA29 rfl rfl HT_ ?_ ?_ ?_ ?_; rotate_left
       ·intro w'; go_simp; (with_reducible rfl)
       rotate_left
       ·simp only [Act.put, qA, qB, qC, i64_w]; rfl
       refine done_ (done_of HT_.out (by kernel_rfl)) ?_
       try go_wp2_with (first | ((with_reducible refine gate_dst (N := 46) rfl ?_); refine Kd.R_lit (Kd.int .i64) _ 3 ?hg (N := 46) ?hd (xs := ([] : List Int)) (inner := []) (ok := fun _ => True) (okp := fun _ => True) ?hr ?hp (fun _ hk => hk) trivial (Below.refl _ _) (Nat.le_refl _) (by simp) ?_; (case hd => rfl); (case hg => rfl); (case hr => first | (go_simp; done) | (go_simp; rfl)); (case hp => exact (Reps.none _ _)); intro v258 w44 ho45 hb hg_ hnew_; clear hg_ hnew_; (first | rw [← Ny257.out] at ho45 | (simp only [Int.reduceToNat] at ho45; rw [← Ny257.out] at ho45)); have HO259 := Aside0.mk (Kd.R_lower (Kd.R_new' ho45 (Kd.R_lt (zR HO_3.out))) (zS HB.out)); replace HO_3 := Aside0.mk (Kd.R_elder' (zR HO_3.out) (Kd.R_base ho45) hb); replace HB := Aside0.mk (below_step (zB HB.out) hb); clear hb ho45; have q46 : (x5_2 : Int) ≤ ((x3_1.length : Int) : Int) := of_decide_eq_true (by assumption); obtain ⟨i046, hi046, _, hsz46, _⟩ := info_parts info3; have hroom46 : x3_1.length ≤ co5 := (Kd.R_reads' HO_3.out).2.1; have hC46 : Kd.C (Kd.int .i64) _ Ao5 x3_1.length x3_1 := (Kd.R_reads' HO_3.out).2.2; have q046 : (0 : Int) ≤ (x5_2 : Int) := of_decide_eq_true (by assumption); have hcut46 := cut_from (P := Tryz.prog) 27 3 .i64 Tryz.underlying27 hi046 1 hsz46 Ao5 x3_1.length co5 x5_2 q046 q46; have hr46 := Kd.C_drop (m := (x5_2 : Int).toNat) (c := co5) hC46 (by omega) hroom46; obtain ⟨A46, hA46⟩ : ∃ A1, A1 = (if co5 = (x5_2 : Int).toNat then Ao5 else (Ao5 : Option Addr).map (·.add ((x5_2 : Int).toNat * 1))) := ⟨_, rfl⟩; obtain ⟨c46, hc46⟩ : ∃ c1, c1 = co5 - (x5_2 : Int).toNat := ⟨_, rfl⟩; have hy46 : y260.length = x3_1.length - (x5_2 : Int).toNat := (by rw [Ny260.out, List.length_drop] <;> omega); rw [show (x3_1).drop (x5_2 : Int).toNat = y260 from Ny260.out.symm] at hr46; replace hr46 : Kd.C (Kd.int .i64) _ A46 y260.length y260 := (by rw [hA46]; exact hr46); rw [← hy46, ← hA46, ← hc46] at hcut46; have HR263 := Aside0.mk hr46; have HC263 := Aside0.mk (show y260.length ≤ c46 from by rw [hy46, hc46]; exact Nat.sub_le_sub_right hroom46 _); clear hr46 hC46 hroom46 hi046 hsz46 hc46; have KY46 := Aside0.mk hy46; have KA46 := Aside0.mk hA46; clear hy46 hA46; have KL46 := Aside0.mk (show (x5_2 : Int).toNat ≤ x3_1.length from by omega); replace q46 := eq_true q46) | ((with_reducible refine gate_builtin (b := .append) (xs := #[.tmp 46, .tmp 49]) rfl ?_); at_builtin; refine Kd.R_append_rows (Kd.int .i64) (w0 := w) w.heap.size rfl (.tmp 46) (.tmp 49) 27 3 (.int .i64 0) 8 rfl Tryz.underlying27 info3 rfl (by decide) (by omega) v258 y257 y260 _ _ _ (fun k_ => some k_ ≠ (.slice Ao5 x3_1.length co5 : Value).ownBlock) (fun _ => False) rfl rfl ?aO ?aR (fun _ _ h => h) (fun _ h => h.elim) ?aF ?aB ?aS ?aL ?_; (case aR => repeat (first | exact (zC HR263.out) | (with_reducible refine Kd.C_alloc ?_ _) | (with_reducible refine Kd.C_drewN ?_ _) | (with_reducible refine Kd.C_drew ?_))); (case aB => exact (zB HB.out)); (case aF => exact (fun k_ hk => Kd.fresh' (Kd.R_lt (zR HO_3.out)) k_ hk)); (case aO => exact (zR (Kd.R_mono HO259.out (fun _ hk => hk.2)))); (case aS => exact (zS HB.out)); (case aL => have := LMc36.out; omega); intro v265 w47 ho hb hg hat; rw [← Ny264.out] at ho; replace HB := Aside0.mk (hb); replace HR263 := Aside0.mk ((show Kd.C (Kd.int .i64) w47 A46 y260.length y260 from by rw [Ny260.out, KA46.out]; exact Kd.C_drop (m := (x5_2 : Int).toNat) (c := co5) ((Kd.R_reads' (Kd.R_after (ok := (fun _ => True)) (zR HO_3.out) hg hat)).2.2) KL46.out ((Kd.R_reads' (Kd.R_after (ok := (fun _ => True)) (zR HO_3.out) hg hat)).2.1))); replace HO_3 := Aside0.mk (Kd.R_after (ok := (fun _ => True)) (zR HO_3.out) hg hat); have HO266 := Aside0.mk (ho); clear HO259; clear ho hb hg hat))
       replace HO_3 := Aside0.mk (Kd.R_drew HO_3.out); replace HO266 := Aside0.mk (Kd.R_drew HO266.out); replace HR263 := Aside0.mk (Kd.C_drew HR263.out); replace HB := Aside0.mk (below_drew1 HB.out); have q49 : (x5_2 : Int) ≤ ((x3_1.length : Int) : Int) := of_decide_eq_true (by assumption); obtain ⟨i049, hi049, _, hsz49, _⟩ := info_parts info3; have hcut49 := cut_to (P := Tryz.prog) 27 3 .i64 Tryz.underlying27 hi049 Ao5 x3_1.length co5 x5_2 (of_decide_eq_true (by assumption)) q49 (Kd.R_reads' HO_3.out).2.1; have hr49 := Kd.R_take (m := (x5_2 : Int).toNat) HO_3.out (by omega); have hy49 : y267.length = (x5_2 : Int).toNat := (by rw [Ny267.out, List.length_take]; omega); rw [← Ny267.out] at hr49; rw [← hy49] at hr49 hcut49; clear hy49 hi049 hsz49 HO_3; have HO269 := Aside0.mk hr49; clear hr49; replace q49 := eq_true q49; have p270 : 0 ≤ (x4_1 : Int) := of_decide_eq_true (by assumption); have q270 : x4_1 < (l0.length : Int) := of_decide_eq_true (by assumption); obtain ⟨ad270, e270, hx270_0⟩ := Kd.at_int HR0.out x4_1 p270 q270; have hw270_0 := hx270_0
       cases e270; (try replace hx270_0 := (HB.out.cell (World.block_lt_of_cell? w _ hx270_0)).trans hx270_0); replace p270 := eq_true p270; replace q270 := eq_true q270; refine start_ (n := 12) (S := fun w' => w'.cell? (ad270.add (x4_1).toNat) = some (.int .i64 (rd l0 x4_1))) (ds := []) bA1 (by kernel_rfl) rfl rfl (((HB.out.cell (World.block_lt_of_cell? w _ hw270_0)).trans hw270_0)) (fun hHeld => ?_); refine with_tabW spec_SortList.tab10 spec_SortList.bits10 (fun HT_ HW_ => ?_); generalize w47.drew = w48 at HO_3 HO266 HR263 HB HO269 hx270_0 hHeld ⊢; refine zP 0 (some 51) ?_ bA3 rfl rfl HT_ ?_ ?_ ?_ ?_; rotate_left
       ·intro w'; go_simp; (with_reducible rfl)
       rotate_left
       ·simp only [Act.put, qA, qB, qC, i64_w]; rfl
       refine zP 1 (some 52) ?_ bA5 rfl rfl HT_ ?_ ?_ ?_ ?_; rotate_left
       ·intro w'; go_simp; (with_reducible rfl)
       rotate_left
       ·simp only [Act.put, qA, qB, qC, i64_w]; rfl
       refine zP 2 (some 53) ?_ bA7 rfl rfl HT_ ?_ ?_ ?_ ?_; rotate_left
       ·intro w'; go_simp; (with_reducible rfl)
       rotate_left
       ·simp only [Act.put, qA, qB, qC, i64_w]; rfl
       refine zP 3 (some 54) ?_ bA9 rfl rfl HT_ ?_ ?_ ?_ ?_; rotate_left
       ·intro w'; go_simp; (with_reducible rfl)
       rotate_left
       ·simp only [Act.put, qA, qB, qC, i64_w]; rfl
       refine zP 4 (some 55) ?_ bA11 rfl rfl HT_ ?_ ?_ ?_ ?_; rotate_left
       ·intro w'; go_simp; (with_reducible rfl)
       rotate_left
       ·simp only [Act.put, qA, qB, qC, i64_w]; rfl
       refine zP 5 (some 56) ?_ bA13 rfl rfl HT_ ?_ ?_ ?_ ?_; rotate_left
       ·intro w'; go_simp; (with_reducible rfl)
       rotate_left
       ·simp only [Act.put, qA, qB, qC, i64_w]; rfl
       refine zP 9 (some 60) ?_ bA14 rfl rfl HT_ ?_ ?_ ?_ ?_; rotate_left
       ·intro w'; go_simp; (with_reducible rfl)
       rotate_left
       ·simp only [Act.put, qA, qB, qC, i64_w]; rfl
       refine zZ 6 (some 57) ?_ bA16 rfl rfl HT_ HW_ ?_ hHeld ?_ ?_ ?_; rotate_left
       ·intro w' s0; go_simp; (with_reducible rfl)
       rotate_left
       ·simp only [Act.put, qA, qB, qC, i64_w]; rfl
       refine one_ (i := 7) (N := some 58) bA21 rfl rfl (one_of HT_.out (by kernel_rfl)) (by decide) (fun K hK => ?_); refine value_ (w1 := ?_) (v := ?_) (by rfl) rfl ?_ ?_; rotate_left 2
       ·go_simp; constructor
        ·rfl
        ·rfl
       refine hK.out _ _ ((World.cell?_alloc_lt _ _ _ (World.block_lt_of_cell? _ _ (((HB.out.cell (World.block_lt_of_cell? w _ hw270_0)).trans hw270_0)))).trans (((HB.out.cell (World.block_lt_of_cell? w _ hw270_0)).trans hw270_0))) (fun hHeld => ?_); clear hK K; refine norm_ (a' := ?_) ?_ ?_; rotate_left
       ·show Act.put _ (some 58) _ = _; simp only [Act.put, qA, qB, qC, i64_w]; rfl
       refine one_ (i := 8) (N := some 59) bA24 rfl rfl (one_of HT_.out (by kernel_rfl)) (by decide) (fun K hK => ?_); refine Kd.R_append_step (Kd.int .i64) (w0 := w) w.heap.size (by rfl) (.tmp 53) (.tmp 58) 27 3 (.int .i64 0) 8 rfl Tryz.underlying27 info3 rfl (by decide) (by omega) (.slice Ao5 y267.length co5) y267 (rd l0 x4_1) [.int .i64 (rd l0 x4_1)] (fun k_ => some k_ ≠ (v265 : Value).ownBlock) (fun _ => False) rfl rfl ?aP (fun _ hk => hk.elim) ?aF ?aO ?aB ?aS ?aL ?_; (case aP => exact rfl); (case aB => exact (zB HB.out)); (case aF => exact (fun k_ hk => Kd.fresh' (Kd.R_lt (zR HO266.out)) k_ hk)); (case aO => exact (zR (Kd.R_mono HO269.out (fun _ hk => hk.2)))); (case aS => exact (zS HB.out)); (case aL => have := LMc40.out; omega); intro v272 w50 ho hb hg hat; rw [← Ny271.out] at ho; replace HO266 := Aside0.mk (Kd.R_after (ok := (fun _ => True)) (zR (Kd.R_mono HO266.out (fun _ hk => ⟨trivial, by first | exact hk | (rw [qO] at hk ⊢; exact hk)⟩))) hg hat); replace HB := Aside0.mk (hb); have HO273 := Aside0.mk (ho); clear HO269; clear ho hb hg hat; obtain ⟨Ao52, co52, eo52⟩ := Kd.R_slice HO266.out; (first | subst eo52 | (injection eo52 with f1_ f2_ f3_; have f4_ := f1_.symm; have f5_ := f3_.symm; clear f1_ f2_ f3_; subst f4_; subst f5_)); refine hK.out _ _ (((HB.out.cell (World.block_lt_of_cell? w _ hw270_0)).trans hw270_0)) (fun hHeld => ?_); clear hK K; refine norm_ (a' := ?_) ?_ ?_; rotate_left
       ·show Act.put _ (some 59) _ = _; simp only [Act.put, qA, qB, qC, i64_w]; rfl
       refine one_ (i := 10) (N := some 61) bA26 rfl rfl (one_of HT_.out (by kernel_rfl)) (by decide) (fun K hK => ?_); refine Kd.R_append_rows_step (Kd.int .i64) (w0 := w) w.heap.size (by rfl) (.tmp 59) (.tmp 60) 27 3 (.int .i64 0) 8 rfl Tryz.underlying27 info3 rfl (by decide) (by omega) v272 y271 y264 _ _ _ (fun k_ => some k_ ≠ (.slice Ao52 y264.length co52 : Value).ownBlock) (fun _ => False) rfl rfl ?aO ?aR (fun _ _ h => h) (fun _ h => h.elim) ?aF ?aB ?aS ?aL ?_; (case aR => repeat (first | exact (Kd.R_reads' HO266.out).2.2 | (with_reducible refine Kd.C_alloc ?_ _) | (with_reducible refine Kd.C_drewN ?_ _) | (with_reducible refine Kd.C_drew ?_))); (case aB => exact (zB HB.out)); (case aF => exact (fun k_ hk => Kd.fresh' (Kd.R_lt (zR HO266.out)) k_ hk)); (case aO => exact (zR HO273.out)); (case aS => exact (zS HB.out)); (case aL => have := LMc41.out; omega); intro v275 w51 ho hb hg hat; rw [← Ny274.out] at ho; replace HO266 := Aside0.mk (Kd.R_after (ok := (fun _ => True)) (zR HO266.out) hg hat); replace HB := Aside0.mk (hb); have HO276 := Aside0.mk (ho); clear HO273; clear ho hb hg hat; refine hK.out _ _ (((HB.out.cell (World.block_lt_of_cell? w _ hw270_0)).trans hw270_0)) (fun hHeld => ?_); clear hK K; refine norm_ (a' := ?_) ?_ ?_; rotate_left
       ·show Act.put _ (some 61) _ = _; simp only [Act.put, qA, qB, qC, i64_w]; rfl
       refine zP 11 (some 3) ?_ bA30 rfl rfl HT_ ?_ ?_ ?_ ?_; rotate_left
       ·intro w'; go_simp; (with_reducible rfl)
       rotate_left
       ·simp only [Act.put, qA, qB, qC, i64_w]; rfl
       refine done_ (done_of HT_.out (by kernel_rfl)) ?_
       try go_wp2
       go_roundg k2
       case measure => have := HK1.out; have := HK2.out; omega
       case rel => exact ⟨(y274), (wrap64 (x4_1 + 1)), (by first | rfl | (simp; done) | (simp [*]; done)), H', ⟨by have := HK1.out; have := HK2.out; omega⟩, ⟨zR (Kd.R_mono HO276.out (fun _ hk => trivial))⟩, ⟨zB HB.out⟩⟩
   ·rw [if_neg c4] at H; have c4b0 : decide (x4_1 < (l0.length : Int)) = false := decide_eq_false c4; clear c4; obtain rfl := Option.some.inj H; go_wp2; go_ret
    exact ⟨_, by first | rfl | (simp [*, errW_none, errW_some] <;> rfl), zR HO_3.out, zB HB.out⟩

end Go.Proofs.YthednemidaegkaaGreatDoor.PFnLists
