-- Written by a program of this session (a turned copy of the kit's print; see NOTES.md).
import Derived.Test.YthednemidaegkaaDoorPFnTextsx0
import Derived.Test.YthednemidaegkaaDoorPFnTextsx2
namespace Go.Proofs.YthednemidaegkaaDoor.PFnTexts
open Go.RowKit Go.Proofs.YthednemidaegkaaDoorW.PrintWords Go.Proofs.YthednemidaegkaaDoorW.PrintLast Go.Proofs.YthednemidaegkaaDoorW.PrintMore
attribute [local go_sem] max2_int min2_int max_two min_two max_three min_three max_four min_four   -- for this text's walks alone
set_option linter.unusedVariables false
set_option linter.unusedSimpArgs false

/-! ### spec_SortList: function 58 -/
mutual
def spec_SortList.l0 : Nat → List Int → List Int → Int → Option (List Int)
 | 0, _, _, _ => none
 | k + 1, x0, x3, x4 => if x4 < (x0.length : Int) then (spec_SortList.l1 k x0 x3 x4 (x3.length : Int)) else (some x3)
def spec_SortList.l1 : Nat → List Int → List Int → Int → Int → Option (List Int)
 | 0, _, _, _, _ => none
 | k + 1, x0, x3, x4, x5 => if x5 > 0 then (if 0 ≤ (wrap64 (x5 - 1)) then (if (wrap64 (x5 - 1)) < (x3.length : Int) then (if 0 ≤ x4 then (if x4 < (x0.length : Int) then (if (rd x3 (wrap64 (x5 - 1))) > (rd x0 x4) then (spec_SortList.l1 k x0 x3 x4 (wrap64 (x5 - 1))) else (if (rd x3 (wrap64 (x5 - 1))) = (rd x0 x4) then (spec_SortList.l0 k x0 x3 (wrap64 (x4 + 1))) else ((some (([] : List Int) : List Int)).bind fun y141 => (if 0 ≤ x5 then (if x5 ≤ (x3.length : Int) then ((some (x3.drop (x5 : Int).toNat : List Int)).bind fun y144 => (if y141.length + y144.length < 17592186044416 then ((some (y141 ++ y144 : List Int)).bind fun y148 => ((some (x3.take (x5 : Int).toNat : List Int)).bind fun y151 => (if y151.length < 17592186044416 then ((some (y151 ++ [rd x0 x4] : List Int)).bind fun y155 => (if y155.length + y148.length < 17592186044416 then (spec_SortList.l0 k x0 (y155 ++ y148) (wrap64 (x4 + 1))) else (none))) else (none)))) else (none))) else (none)) else (none))))) else (none)) else (none)) else (none)) else (none)) else ((some (([] : List Int) : List Int)).bind fun y161 => (if 0 ≤ x5 then (if x5 ≤ (x3.length : Int) then ((some (x3.drop (x5 : Int).toNat : List Int)).bind fun y164 => (if y161.length + y164.length < 17592186044416 then ((some (y161 ++ y164 : List Int)).bind fun y168 => ((some (x3.take (x5 : Int).toNat : List Int)).bind fun y171 => (if 0 ≤ x4 then (if x4 < (x0.length : Int) then (if y171.length < 17592186044416 then ((some (y171 ++ [rd x0 x4] : List Int)).bind fun y175 => (if y175.length + y168.length < 17592186044416 then (spec_SortList.l0 k x0 (y175 ++ y168) (wrap64 (x4 + 1))) else (none))) else (none)) else (none)) else (none)))) else (none))) else (none)) else (none)))
end
def spec_SortList.f (k : Nat) (l0 : List Int) : Option (List Int) := spec_SortList.l0 k l0 (([] : List Int)) 0
def spec_SortList.T6 : Bool × List (List Nat × List Nat) := (true, [([], []), ([0], [0]), ([1], [1]), ([2], [2]), ([2], [2]), ([4, 2], [2, 4]), ([3, 5, 2], [2, 3, 5]), ([6, 2], [2, 6]), ([2], [2]), ([2], [2]), ([8, 9, 2], [2, 8, 9]), ([10, 2], [2, 10]), ([7, 11, 2], [2, 7, 11]), ([2, 12], [2, 12])])
def spec_SortList.B6 : List Nat := [0, 1, 3, 7, 7, 23, 63, 127, 7, 7, 775, 1799, 4095, 8191]
theorem spec_SortList.tab6 : rtab .any (opsOf Tryd.f58 6) = spec_SortList.T6 := by kernel_rfl
theorem spec_SortList.bits6 : waitsOk spec_SortList.T6.2 spec_SortList.B6 = true := by kernel_rfl
def spec_SortList.T8 : Bool × List (List Nat × List Nat) := (true, [([], []), ([0], [0]), ([1], [1]), ([2], [2]), ([2], [2]), ([4, 2], [2, 4]), ([3, 5, 2], [2, 3, 5]), ([6, 2], [2, 6]), ([2], [2]), ([2], [2]), ([8, 9, 2], [2, 8, 9]), ([10, 2], [2, 10]), ([7, 11, 2], [2, 7, 11]), ([2, 12], [2, 12])])
def spec_SortList.B8 : List Nat := [0, 1, 3, 7, 7, 23, 63, 127, 7, 7, 775, 1799, 4095, 8191]
theorem spec_SortList.tab8 : rtab .any (opsOf Tryd.f58 8) = spec_SortList.T8 := by kernel_rfl
theorem spec_SortList.bits8 : waitsOk spec_SortList.T8.2 spec_SortList.B8 = true := by kernel_rfl
def spec_SortList.T10 : Bool × List (List Nat × List Nat) := (true, [([], []), ([], []), ([0, 1], [0, 1]), ([], []), ([], []), ([3, 4], [3, 4]), ([5], [5]), ([6], [6]), ([2, 7], [2, 7]), ([], []), ([8, 9, 8], [8, 9]), ([10, 10, 0, 1, 2, 3, 4, 5, 6, 7, 8, 9, 10], [0, 10])])
def spec_SortList.B10 : List Nat := [0, 0, 3, 0, 0, 24, 56, 120, 255, 0, 1023, 2047]
theorem spec_SortList.tab10 : rtab .any (opsOf Tryd.f58 10) = spec_SortList.T10 := by kernel_rfl
theorem spec_SortList.bits10 : waitsOk spec_SortList.T10.2 spec_SortList.B10 = true := by kernel_rfl
set_option maxHeartbeats 8000000 in
set_option maxRecDepth 100000 in
theorem spec_SortList.calls (k : Nat) (A0 : Option Addr) (c0 : Nat) (l0 : List Int) (r : List Int) (w : World) (hr0 : Kd.C (Kd.int .i64) w A0 l0.length l0) (hc0 : l0.length ≤ c0) (h : spec_SortList.f k l0 = some r) :
  Calls Tryd.prog 58 #[.slice A0 l0.length c0] w fun e w' => ∃ v0_ : Value, e = .returned (v0_) ∧ Kd.R (Kd.int .i64) 3 w' w.heap.size (fun _ => True) v0_ r ∧ Below w.heap.size w w' := by
 have HR0 := Aside0.mk hr0; have HC0 := Aside0.mk hc0; clear hr0 hc0; have HB := Aside0.mk (Below.refl w.heap.size w); have H : (spec_SortList.l0 k l0 (([] : List Int)) 0) = some r := h; clear h; obtain ⟨y134, hy134⟩ : ∃ y_ : List Int, y_ = (([] : List Int)) := ⟨_, rfl⟩; replace H : (spec_SortList.l0 k l0 y134 0) = some r := by first | (rw [hy134]; with_reducible exact H) | (have H2_ := (Option.bind_some _ _).symm.trans H; rw [hy134]; with_reducible exact H2_) | (have H2_ := (Option.bind_some _ _).symm.trans H; with_reducible exact H2_) | with_reducible exact H | (rw [hy134]; exact H) | exact H
 have Ny134 := Aside0.mk hy134; clear hy134; have H' := Aside0.mk H; clear H; go_enter Tryd.func58, Tryd.ntmps58; go_wp2_with (first | ((with_reducible refine gate_dst (N := 7) rfl ?_); refine Kd.R_lit (Kd.int .i64) _ 3 ?hg (N := 7) ?hd (xs := ([] : List Int)) (inner := []) (ok := fun _ => True) (okp := fun _ => True) ?hr ?hp (fun _ hk => hk) trivial (Below.refl _ _) (Nat.le_refl _) (by simp) ?_; (case hd => rfl); (case hg => rfl); (case hr => first | (go_simp; done) | (go_simp; rfl)); (case hp => exact (Reps.none _ _)); intro v135 w2 ho3 hb hg_ hnew_; clear hg_ hnew_; (first | rw [← Ny134.out] at ho3 | (simp only [Int.reduceToNat] at ho3; rw [← Ny134.out] at ho3)); have HO136 := Aside0.mk (Kd.R_lower ho3 (zS HB.out)); replace HB := Aside0.mk (below_step (zB HB.out) hb); clear hb ho3)); go_loopg [3, 4] k (fun kq v3 v4 w' => ∃ (x3_1 : List Int) (x4_1 : Int), v4 = .int .i64 x4_1 ∧ Aside0 (spec_SortList.l0 kq l0 x3_1 x4_1 = some r) ∧ Aside0 (kq ≤ k) ∧ Aside0 (Kd.R (Kd.int .i64) 3 w' w.heap.size (fun _ => True) v3 x3_1) ∧ Aside0 (Below w.heap.size w w'))
 case atStart => exact ⟨(y134), (0), (by first | rfl | (simp; done) | (simp [*]; done)), H', ⟨Nat.le_refl _⟩, ⟨zR HO136.out⟩, ⟨zB HB.out⟩⟩
 case round =>
  clear H'; obtain ⟨x3_1, x4_1, rfl, HA, HK1, HO_3, HB⟩ := hrel
  cases gk with
  | zero => exact absurd HA.out (by simp [spec_SortList.l0])
  | succ k1 =>
   have H := HA.out; clear HA; simp only [spec_SortList.l0] at H
   by_cases c4 : x4_1 < (l0.length : Int)
   ·rw [if_pos c4] at H; have c4b0 : decide (x4_1 < (l0.length : Int)) = true := decide_eq_true c4; clear c4; have H' := Aside0.mk H; clear H; obtain ⟨Ao5, co5, eo5⟩ := Kd.R_slice HO_3.out; subst eo5; go_wp2; go_loopg [5] k1 (fun kq v5 w' => ∃ (x5_2 : Int), v5 = .int .i64 x5_2 ∧ Aside0 (spec_SortList.l1 kq l0 x3_1 x4_1 x5_2 = some r) ∧ Aside0 (kq ≤ k1) ∧ Aside0 (Kd.R (Kd.int .i64) 3 w' w.heap.size (fun _ => True) (.slice Ao5 x3_1.length co5) x3_1) ∧ Aside0 (Below w.heap.size w w'))
    case atStart => exact ⟨((x3_1.length : Int)), (by first | rfl | (simp; done) | (simp [*]; done)), H', ⟨Nat.le_refl _⟩, ⟨zR HO_3.out⟩, ⟨zB HB.out⟩⟩
    case round =>
     clear H'
     try clear c4b0
     obtain ⟨x5_2, rfl, HA, HK2, HO_3, HB⟩ := hrel
     cases gk with
     | zero => exact absurd HA.out (by simp [spec_SortList.l1])
     | succ k2 =>
      have H := HA.out; clear HA; simp only [spec_SortList.l1] at H
      by_cases c6 : x5_2 > 0
      ·rw [if_pos c6] at H; have c6b0 : decide (0 < x5_2) = true := decide_eq_true c6; clear c6; obtain ⟨ji7, hji7⟩ : ∃ j_ : Int, (wrap64 (x5_2 - 1)) = j_ := ⟨_, rfl⟩; replace H : (if 0 ≤ (ji7) then (if (ji7) < (x3_1.length : Int) then (if 0 ≤ x4_1 then (if x4_1 < (l0.length : Int) then (if (rd x3_1 (ji7)) > (rd l0 x4_1) then (spec_SortList.l1 k2 l0 x3_1 x4_1 ji7) else (if (rd x3_1 (ji7)) = (rd l0 x4_1) then (spec_SortList.l0 k2 l0 x3_1 (wrap64 (x4_1 + 1))) else ((some (([] : List Int) : List Int)).bind fun y141 => (if 0 ≤ x5_2 then (if x5_2 ≤ (x3_1.length : Int) then ((some (x3_1.drop (x5_2 : Int).toNat : List Int)).bind fun y144 => (if y141.length + y144.length < 17592186044416 then ((some (y141 ++ y144 : List Int)).bind fun y148 => ((some (x3_1.take (x5_2 : Int).toNat : List Int)).bind fun y151 => (if y151.length < 17592186044416 then ((some (y151 ++ [rd l0 x4_1] : List Int)).bind fun y155 => (if y155.length + y148.length < 17592186044416 then (spec_SortList.l0 k2 l0 (y155 ++ y148) (wrap64 (x4_1 + 1))) else (none))) else (none)))) else (none))) else (none)) else (none))))) else (none)) else (none)) else (none)) else (none)) = some r := by first | (rw [hji7] at H; exact H) | (simp only [hji7] at H ⊢; exact H)
       have hji7w : (IntKind.i64.wrap (x5_2 - 1)) = ji7 := (i64_w _).trans hji7; obtain ⟨c8, H⟩ := zi H; have c8b0 : decide (0 ≤ (ji7)) = true := decide_eq_true c8; clear c8; obtain ⟨c9, H⟩ := zi H; have c9b0 : decide ((ji7) < (x3_1.length : Int)) = true := decide_eq_true c9; clear c9; obtain ⟨c10, H⟩ := zi H; have c10b0 : decide (0 ≤ x4_1) = true := decide_eq_true c10; clear c10; obtain ⟨c11, H⟩ := zi H; have c11b0 : decide (x4_1 < (l0.length : Int)) = true := decide_eq_true c11; clear c11
       by_cases c12 : (rd x3_1 (ji7)) > (rd l0 x4_1)
       ·rw [if_pos c12] at H; have c12b0 : decide ((rd l0 x4_1) < (rd x3_1 (ji7))) = true := decide_eq_true c12; clear c12; have H' := Aside0.mk H; clear H
        try go_wp2
        replace HO_3 := Aside0.mk (Kd.R_drew HO_3.out); replace HB := Aside0.mk (below_drew1 HB.out); have p137 : 0 ≤ ((ji7) : Int) := of_decide_eq_true (by assumption); have q137 : (ji7) < (x3_1.length : Int) := of_decide_eq_true (by assumption); obtain ⟨ad137, e137, hx137_0⟩ := Kd.at_int (Kd.R_reads' HO_3.out).2.2 (ji7) p137 q137
        cases e137; replace p137 := eq_true p137; replace q137 := eq_true q137; have p138 : 0 ≤ (x4_1 : Int) := of_decide_eq_true (by assumption); have q138 : x4_1 < (l0.length : Int) := of_decide_eq_true (by assumption); obtain ⟨ad138, e138, hx138_0⟩ := Kd.at_int HR0.out x4_1 p138 q138; have hw138_0 := hx138_0
        cases e138; (try replace hx138_0 := (HB.out.cell (World.block_lt_of_cell? w _ hx138_0)).trans hx138_0); replace p138 := eq_true p138; replace q138 := eq_true q138; refine start_ (n := 14) (S := fun w' => w'.cell? (ad137.add ((ji7)).toNat) = some (.int .i64 (rd x3_1 (ji7))) ∧ w'.cell? (ad138.add (x4_1).toNat) = some (.int .i64 (rd l0 x4_1))) (ds := []) bA3 (by kernel_rfl) rfl rfl ⟨hx137_0, ((HB.out.cell (World.block_lt_of_cell? w _ hw138_0)).trans hw138_0)⟩ (fun hHeld => ?_); refine with_tabW spec_SortList.tab6 spec_SortList.bits6 (fun HT_ HW_ => ?_); generalize wr.drew = w13 at HO_3 HB hx137_0 hx138_0 hHeld ⊢; refine zP 0 (some 16) ?_ bA10 rfl rfl HT_ ?_ ?_ ?_ ?_; rotate_left
        ·intro w'; go_simp; (with_reducible rfl)
        rotate_left
        ·simp only [Act.put, qA, qB, qC, i64_w]; rfl
        refine zP 1 (some 17) ?_ bA17 rfl rfl HT_ ?_ ?_ ?_ ?_; rotate_left
        ·intro w'; go_simp; (with_reducible rfl)
        rotate_left
        ·simp only [Act.put, qA, qB, qC, i64_w]; rfl
        refine zP 2 (some 18) ?_ bA23 rfl rfl HT_ ?_ ?_ ?_ ?_; rotate_left
        ·intro w'; go_simp; (with_reducible rfl)
        rotate_left
        ·simp only [Act.put, qA, qB, qC, i64_w]; rfl
        refine zP 3 (some 19) ?_ bA33 rfl rfl HT_ ?_ ?_ ?_ ?_; rotate_left
        ·intro w'; go_simp; (with_reducible rfl)
        rotate_left
        ·simp only [Act.put, qA, qB, qC, i64_w]; rfl
        refine zP 4 (some 20) ?_ bA42 rfl rfl HT_ ?_ ?_ ?_ ?_; rotate_left
        ·intro w'; go_simp; (with_reducible rfl)
        rotate_left
        ·simp only [Act.put, qA, qB, qC, i64_w]; rfl
        refine zP 5 (some 21) ?_ bA48 rfl rfl HT_ ?_ ?_ ?_ ?_; rotate_left
        ·intro w'; go_simp; (with_reducible rfl)
        rotate_left
        ·simp only [Act.put, qA, qB, qC, i64_w]; rfl
        refine zP 6 (some 22) ?_ bA55 rfl rfl HT_ ?_ ?_ ?_ ?_; rotate_left
        ·intro w'; go_simp; (with_reducible rfl)
        rotate_left
        ·simp only [Act.put, qA, qB, qC, i64_w]; rfl
        refine zP 8 (some 24) ?_ bA57 rfl rfl HT_ ?_ ?_ ?_ ?_; rotate_left
        ·intro w'; go_simp; (with_reducible rfl)
        rotate_left
        ·simp only [Act.put, qA, qB, qC, i64_w]; rfl
        refine zP 9 (some 25) ?_ bA58 rfl rfl HT_ ?_ ?_ ?_ ?_; rotate_left
        ·intro w'; go_simp; (with_reducible rfl)
        rotate_left
        ·simp only [Act.put, qA, qB, qC, i64_w]; rfl
        refine zP 10 (some 26) ?_ bA59 rfl rfl HT_ ?_ ?_ ?_ ?_; rotate_left
        ·intro w'; go_simp; (with_reducible rfl)
        rotate_left
        ·simp only [Act.put, qA, qB, qC, i64_w]; rfl
        refine zZ 7 (some 23) ?_ bA77 rfl rfl HT_ HW_ ?_ hHeld ?_ ?_ ?_; rotate_left
        ·rintro w' ⟨s0, s1⟩; go_simp; (with_reducible rfl)
        rotate_left
        ·simp only [Act.put, qA, qB, qC, i64_w]; rfl
        refine zZ 11 (some 27) ?_ bA82 rfl rfl HT_ HW_ ?_ hHeld ?_ ?_ ?_; rotate_left
        ·rintro w' ⟨s0, s1⟩; go_simp; (with_reducible rfl)
        rotate_left
        ·simp only [Act.put, qA, qB, qC, i64_w]; rfl
        refine zP 12 (some 28) ?_ bA86 rfl rfl HT_ ?_ ?_ ?_ ?_; rotate_left
        ·intro w'; go_simp; (with_reducible rfl)
        rotate_left
        ·simp only [Act.put, qA, qB, qC, i64_w]; rfl
        refine zP 13 (some 29) ?_ bA153 rfl rfl HT_ ?_ ?_ ?_ ?_; rotate_left
        ·intro w'; go_simp; (with_reducible rfl)
        rotate_left
        ·simp only [Act.put, qA, qB, qC, i64_w]; rfl
        refine done_ (done_of HT_.out (by kernel_rfl)) ?_
        try go_wp2
        go_roundg k2
        case measure => have := HK1.out; have := HK2.out; omega
        case rel => exact ⟨(ji7), (by first | rfl | (simp; done) | (simp only [← hji7] <;> (first | rfl | simp)) | (simp [*]; done)), H', ⟨by have := HK1.out; have := HK2.out; omega⟩, ⟨zR HO_3.out⟩, ⟨zB HB.out⟩⟩
       ·rw [if_neg c12] at H; have c12b0 : decide ((rd l0 x4_1) < (rd x3_1 (ji7))) = false := decide_eq_false c12; clear c12
        by_cases c14 : (rd x3_1 (ji7)) = (rd l0 x4_1)
        ·rw [if_pos c14] at H; have c14b0 : ((rd x3_1 (ji7)) == (rd l0 x4_1)) = true := beq_iff_eq.mpr c14; have c14b1 : ((rd x3_1 (ji7)) != (rd l0 x4_1)) = false := bne_eq_false_iff_eq.mpr c14; clear c14; have H' := Aside0.mk H; clear H
         try go_wp2
         replace HO_3 := Aside0.mk (Kd.R_drew HO_3.out); replace HB := Aside0.mk (below_drew1 HB.out); have p137 : 0 ≤ ((ji7) : Int) := of_decide_eq_true (by assumption); have q137 : (ji7) < (x3_1.length : Int) := of_decide_eq_true (by assumption); obtain ⟨ad137, e137, hx137_0⟩ := Kd.at_int (Kd.R_reads' HO_3.out).2.2 (ji7) p137 q137
         cases e137; replace p137 := eq_true p137; replace q137 := eq_true q137; have p138 : 0 ≤ (x4_1 : Int) := of_decide_eq_true (by assumption); have q138 : x4_1 < (l0.length : Int) := of_decide_eq_true (by assumption); obtain ⟨ad138, e138, hx138_0⟩ := Kd.at_int HR0.out x4_1 p138 q138; have hw138_0 := hx138_0
         cases e138; (try replace hx138_0 := (HB.out.cell (World.block_lt_of_cell? w _ hx138_0)).trans hx138_0); replace p138 := eq_true p138; replace q138 := eq_true q138; refine start_ (n := 14) (S := fun w' => w'.cell? (ad137.add ((ji7)).toNat) = some (.int .i64 (rd x3_1 (ji7))) ∧ w'.cell? (ad138.add (x4_1).toNat) = some (.int .i64 (rd l0 x4_1))) (ds := []) bA3 (by kernel_rfl) rfl rfl ⟨hx137_0, ((HB.out.cell (World.block_lt_of_cell? w _ hw138_0)).trans hw138_0)⟩ (fun hHeld => ?_); refine with_tabW spec_SortList.tab6 spec_SortList.bits6 (fun HT_ HW_ => ?_); generalize wr.drew = w15 at HO_3 HB hx137_0 hx138_0 hHeld ⊢; refine zP 0 (some 16) ?_ bA10 rfl rfl HT_ ?_ ?_ ?_ ?_; rotate_left
         ·intro w'; go_simp; (with_reducible rfl)
         rotate_left
         ·simp only [Act.put, qA, qB, qC, i64_w]; rfl
         refine zP 1 (some 17) ?_ bA17 rfl rfl HT_ ?_ ?_ ?_ ?_; rotate_left
         ·intro w'; go_simp; (with_reducible rfl)
         rotate_left
         ·simp only [Act.put, qA, qB, qC, i64_w]; rfl
         refine zP 2 (some 18) ?_ bA23 rfl rfl HT_ ?_ ?_ ?_ ?_; rotate_left
         ·intro w'; go_simp; (with_reducible rfl)
         rotate_left
         ·simp only [Act.put, qA, qB, qC, i64_w]; rfl
         refine zP 3 (some 19) ?_ bA33 rfl rfl HT_ ?_ ?_ ?_ ?_; rotate_left
         ·intro w'; go_simp; (with_reducible rfl)
         rotate_left
         ·simp only [Act.put, qA, qB, qC, i64_w]; rfl
         refine zP 4 (some 20) ?_ bA42 rfl rfl HT_ ?_ ?_ ?_ ?_; rotate_left
         ·intro w'; go_simp; (with_reducible rfl)
         rotate_left
         ·simp only [Act.put, qA, qB, qC, i64_w]; rfl
         refine zP 5 (some 21) ?_ bA48 rfl rfl HT_ ?_ ?_ ?_ ?_; rotate_left
         ·intro w'; go_simp; (with_reducible rfl)
         rotate_left
         ·simp only [Act.put, qA, qB, qC, i64_w]; rfl
         refine zP 6 (some 22) ?_ bA55 rfl rfl HT_ ?_ ?_ ?_ ?_; rotate_left
         ·intro w'; go_simp; (with_reducible rfl)
         rotate_left
         ·simp only [Act.put, qA, qB, qC, i64_w]; rfl
         refine zP 8 (some 24) ?_ bA57 rfl rfl HT_ ?_ ?_ ?_ ?_; rotate_left
         ·intro w'; go_simp; (with_reducible rfl)
         rotate_left
         ·simp only [Act.put, qA, qB, qC, i64_w]; rfl
         refine zP 9 (some 25) ?_ bA58 rfl rfl HT_ ?_ ?_ ?_ ?_; rotate_left
         ·intro w'; go_simp; (with_reducible rfl)
         rotate_left
         ·simp only [Act.put, qA, qB, qC, i64_w]; rfl
         refine zP 10 (some 26) ?_ bA59 rfl rfl HT_ ?_ ?_ ?_ ?_; rotate_left
         ·intro w'; go_simp; (with_reducible rfl)
         rotate_left
         ·simp only [Act.put, qA, qB, qC, i64_w]; rfl
         refine zZ 7 (some 23) ?_ bA77 rfl rfl HT_ HW_ ?_ hHeld ?_ ?_ ?_; rotate_left
         ·rintro w' ⟨s0, s1⟩; go_simp; (with_reducible rfl)
         rotate_left
         ·simp only [Act.put, qA, qB, qC, i64_w]; rfl
         refine zZ 11 (some 27) ?_ bA82 rfl rfl HT_ HW_ ?_ hHeld ?_ ?_ ?_; rotate_left
         ·rintro w' ⟨s0, s1⟩; go_simp; (with_reducible rfl)
         rotate_left
         ·simp only [Act.put, qA, qB, qC, i64_w]; rfl
         refine zP 12 (some 28) ?_ bA86 rfl rfl HT_ ?_ ?_ ?_ ?_; rotate_left
         ·intro w'; go_simp; (with_reducible rfl)
         rotate_left
         ·simp only [Act.put, qA, qB, qC, i64_w]; rfl
         refine zP 13 (some 29) ?_ bA153 rfl rfl HT_ ?_ ?_ ?_ ?_; rotate_left
         ·intro w'; go_simp; (with_reducible rfl)
         rotate_left
         ·simp only [Act.put, qA, qB, qC, i64_w]; rfl
         refine done_ (done_of HT_.out (by kernel_rfl)) ?_
         try go_wp2
         replace HO_3 := Aside0.mk (Kd.R_drew HO_3.out); replace HB := Aside0.mk (below_drew1 HB.out); have p139 : 0 ≤ ((ji7) : Int) := of_decide_eq_true (by assumption); have q139 : (ji7) < (x3_1.length : Int) := of_decide_eq_true (by assumption); obtain ⟨ad139, e139, hx139_0⟩ := Kd.at_int (Kd.R_reads' HO_3.out).2.2 (ji7) p139 q139; obtain rfl : ad137 = ad139 := (by injection e139); replace p139 := eq_true p139; replace q139 := eq_true q139; have p140 : 0 ≤ (x4_1 : Int) := of_decide_eq_true (by assumption); have q140 : x4_1 < (l0.length : Int) := of_decide_eq_true (by assumption); obtain ⟨ad140, e140, hx140_0⟩ := Kd.at_int HR0.out x4_1 p140 q140; have hw140_0 := hx140_0; obtain rfl : ad138 = ad140 := (by injection e140); (try replace hx140_0 := (HB.out.cell (World.block_lt_of_cell? w _ hx140_0)).trans hx140_0); replace p140 := eq_true p140; replace q140 := eq_true q140; refine start_ (n := 14) (S := fun w' => w'.cell? (ad137.add ((ji7)).toNat) = some (.int .i64 (rd x3_1 (ji7))) ∧ w'.cell? (ad138.add (x4_1).toNat) = some (.int .i64 (rd l0 x4_1))) (ds := []) bA3 (by kernel_rfl) rfl rfl ⟨hx139_0, ((HB.out.cell (World.block_lt_of_cell? w _ hw140_0)).trans hw140_0)⟩ (fun hHeld => ?_); refine with_tabW spec_SortList.tab8 spec_SortList.bits8 (fun HT_ HW_ => ?_); generalize w15.drew = w16 at HO_3 HB hx139_0 hx140_0 hHeld ⊢; refine zP 0 (some 32) ?_ bA10 rfl rfl HT_ ?_ ?_ ?_ ?_; rotate_left
         ·intro w'; go_simp; (with_reducible rfl)
         rotate_left
         ·simp only [Act.put, qA, qB, qC, i64_w]; rfl
         refine zP 1 (some 33) ?_ bA17 rfl rfl HT_ ?_ ?_ ?_ ?_; rotate_left
         ·intro w'; go_simp; (with_reducible rfl)
         rotate_left
         ·simp only [Act.put, qA, qB, qC, i64_w]; rfl
         refine zP 2 (some 34) ?_ bA23 rfl rfl HT_ ?_ ?_ ?_ ?_; rotate_left
         ·intro w'; go_simp; (with_reducible rfl)
         rotate_left
         ·simp only [Act.put, qA, qB, qC, i64_w]; rfl
         refine zP 3 (some 35) ?_ bA33 rfl rfl HT_ ?_ ?_ ?_ ?_; rotate_left
         ·intro w'; go_simp; (with_reducible rfl)
         rotate_left
         ·simp only [Act.put, qA, qB, qC, i64_w]; rfl
         refine zP 4 (some 36) ?_ bA42 rfl rfl HT_ ?_ ?_ ?_ ?_; rotate_left
         ·intro w'; go_simp; (with_reducible rfl)
         rotate_left
         ·simp only [Act.put, qA, qB, qC, i64_w]; rfl
         refine zP 5 (some 37) ?_ bA48 rfl rfl HT_ ?_ ?_ ?_ ?_; rotate_left
         ·intro w'; go_simp; (with_reducible rfl)
         rotate_left
         ·simp only [Act.put, qA, qB, qC, i64_w]; rfl
         refine zP 6 (some 38) ?_ bA55 rfl rfl HT_ ?_ ?_ ?_ ?_; rotate_left
         ·intro w'; go_simp; (with_reducible rfl)
         rotate_left
         ·simp only [Act.put, qA, qB, qC, i64_w]; rfl
         refine zP 8 (some 40) ?_ bA57 rfl rfl HT_ ?_ ?_ ?_ ?_; rotate_left
         ·intro w'; go_simp; (with_reducible rfl)
         rotate_left
         ·simp only [Act.put, qA, qB, qC, i64_w]; rfl
         refine zP 9 (some 41) ?_ bA58 rfl rfl HT_ ?_ ?_ ?_ ?_; rotate_left
         ·intro w'; go_simp; (with_reducible rfl)
         rotate_left
         ·simp only [Act.put, qA, qB, qC, i64_w]; rfl
         refine zP 10 (some 42) ?_ bA59 rfl rfl HT_ ?_ ?_ ?_ ?_; rotate_left
         ·intro w'; go_simp; (with_reducible rfl)
         rotate_left
         ·simp only [Act.put, qA, qB, qC, i64_w]; rfl
         refine zZ 7 (some 39) ?_ bA77 rfl rfl HT_ HW_ ?_ hHeld ?_ ?_ ?_; rotate_left
         ·rintro w' ⟨s0, s1⟩; go_simp; (with_reducible rfl)
         rotate_left
         ·simp only [Act.put, qA, qB, qC, i64_w]; rfl
         refine zZ 11 (some 43) ?_ bA82 rfl rfl HT_ HW_ ?_ hHeld ?_ ?_ ?_; rotate_left
         ·rintro w' ⟨s0, s1⟩; go_simp; (with_reducible rfl)
         rotate_left
         ·simp only [Act.put, qA, qB, qC, i64_w]; rfl
         refine zP 12 (some 44) ?_ bA86 rfl rfl HT_ ?_ ?_ ?_ ?_; rotate_left
         ·intro w'; go_simp; (with_reducible rfl)
         rotate_left
         ·simp only [Act.put, qA, qB, qC, i64_w]; rfl
         refine zP 13 (some 45) ?_ bA153 rfl rfl HT_ ?_ ?_ ?_ ?_; rotate_left
         ·intro w'; go_simp; (with_reducible rfl)
         rotate_left
         ·simp only [Act.put, qA, qB, qC, i64_w]; rfl
         refine done_ (done_of HT_.out (by kernel_rfl)) ?_
         try go_wp2
         go_roundg k2
         case measure => have := HK1.out; have := HK2.out; omega
         case rel => exact ⟨(x3_1), (wrap64 (x4_1 + 1)), (by first | rfl | (simp; done) | (simp [*]; done)), H', ⟨by have := HK1.out; have := HK2.out; omega⟩, ⟨zR HO_3.out⟩, ⟨zB HB.out⟩⟩
        ·rw [if_neg c14] at H; have c14b0 : ((rd x3_1 (ji7)) == (rd l0 x4_1)) = false := beq_eq_false_iff_ne.mpr c14; have c14b1 : ((rd x3_1 (ji7)) != (rd l0 x4_1)) = true := bne_iff_ne.mpr c14; obtain ⟨y141, hy141⟩ : ∃ y_ : List Int, y_ = (([] : List Int)) := ⟨_, rfl⟩; replace H : (if 0 ≤ x5_2 then (if x5_2 ≤ (x3_1.length : Int) then ((some (x3_1.drop (x5_2 : Int).toNat : List Int)).bind fun y144 => (if y141.length + y144.length < 17592186044416 then ((some (y141 ++ y144 : List Int)).bind fun y148 => ((some (x3_1.take (x5_2 : Int).toNat : List Int)).bind fun y151 => (if y151.length < 17592186044416 then ((some (y151 ++ [rd l0 x4_1] : List Int)).bind fun y155 => (if y155.length + y148.length < 17592186044416 then (spec_SortList.l0 k2 l0 (y155 ++ y148) (wrap64 (x4_1 + 1))) else (none))) else (none)))) else (none))) else (none)) else (none)) = some r := by first | (rw [hy141]; with_reducible exact H) | (have H2_ := (Option.bind_some _ _).symm.trans H; rw [hy141]; with_reducible exact H2_) | (have H2_ := (Option.bind_some _ _).symm.trans H; with_reducible exact H2_) | with_reducible exact H | (rw [hy141]; exact H) | exact H
         have Ny141 := Aside0.mk hy141; clear hy141; obtain ⟨c17, H⟩ := zi H; have c17b0 := eq_true c17; have c17b1 : decide (0 ≤ x5_2) = true := decide_eq_true c17; clear c17; obtain ⟨c18, H⟩ := zi H; have c18b0 := eq_true c18; have c18b1 : decide (x5_2 ≤ (x3_1.length : Int)) = true := decide_eq_true c18; clear c18; obtain ⟨y144, Ny144⟩ : ∃ y_ : List Int, Aside0 (y_ = (x3_1.drop (x5_2 : Int).toNat)) := ⟨_, ⟨rfl⟩⟩; (try rw [Option.bind_some] at H); (try rw [← Ny144.out] at H); obtain ⟨c19, H⟩ := zi H; have LMc19 := Aside0.mk c19; clear c19; obtain ⟨y148, Ny148⟩ : ∃ y_ : List Int, Aside0 (y_ = (y141 ++ y144)) := ⟨_, ⟨rfl⟩⟩; (try rw [Option.bind_some] at H); (try rw [← Ny148.out] at H); have c20b0 := eq_true (of_decide_eq_true (by assumption) : x5_2 ≤ (x3_1.length : Int)); obtain ⟨y151, Ny151⟩ : ∃ y_ : List Int, Aside0 (y_ = (x3_1.take (x5_2 : Int).toNat)) := ⟨_, ⟨rfl⟩⟩; (try rw [Option.bind_some] at H); (try rw [← Ny151.out] at H); obtain ⟨c21, H⟩ := zi H; have LMc21 := Aside0.mk c21; clear c21; obtain ⟨y155, Ny155⟩ : ∃ y_ : List Int, Aside0 (y_ = (y151 ++ [rd l0 x4_1])) := ⟨_, ⟨rfl⟩⟩; (try rw [Option.bind_some] at H); (try rw [← Ny155.out] at H); obtain ⟨c22, H⟩ := zi H; have LMc22 := Aside0.mk c22; clear c22; obtain ⟨y158, Ny158⟩ : ∃ y_ : List Int, Aside0 (y_ = (y155 ++ y148)) := ⟨_, ⟨rfl⟩⟩; (try rw [Option.bind_some] at H); (try rw [← Ny158.out] at H); have H' := Aside0.mk H; clear H
         try go_wp2
         replace HO_3 := Aside0.mk (Kd.R_drew HO_3.out); replace HB := Aside0.mk (below_drew1 HB.out); have p137 : 0 ≤ ((ji7) : Int) := of_decide_eq_true (by assumption); have q137 : (ji7) < (x3_1.length : Int) := of_decide_eq_true (by assumption); obtain ⟨ad137, e137, hx137_0⟩ := Kd.at_int (Kd.R_reads' HO_3.out).2.2 (ji7) p137 q137
         cases e137; replace p137 := eq_true p137; replace q137 := eq_true q137; have p138 : 0 ≤ (x4_1 : Int) := of_decide_eq_true (by assumption); have q138 : x4_1 < (l0.length : Int) := of_decide_eq_true (by assumption); obtain ⟨ad138, e138, hx138_0⟩ := Kd.at_int HR0.out x4_1 p138 q138; have hw138_0 := hx138_0
         cases e138; (try replace hx138_0 := (HB.out.cell (World.block_lt_of_cell? w _ hx138_0)).trans hx138_0); replace p138 := eq_true p138; replace q138 := eq_true q138; refine start_ (n := 14) (S := fun w' => w'.cell? (ad137.add ((ji7)).toNat) = some (.int .i64 (rd x3_1 (ji7))) ∧ w'.cell? (ad138.add (x4_1).toNat) = some (.int .i64 (rd l0 x4_1))) (ds := []) bA3 (by kernel_rfl) rfl rfl ⟨hx137_0, ((HB.out.cell (World.block_lt_of_cell? w _ hw138_0)).trans hw138_0)⟩ (fun hHeld => ?_); refine with_tabW spec_SortList.tab6 spec_SortList.bits6 (fun HT_ HW_ => ?_); generalize wr.drew = w23 at HO_3 HB hx137_0 hx138_0 hHeld ⊢; refine zP 0 (some 16) ?_ bA10 rfl rfl HT_ ?_ ?_ ?_ ?_; rotate_left
         ·intro w'; go_simp; (with_reducible rfl)
         rotate_left
         ·simp only [Act.put, qA, qB, qC, i64_w]; rfl
         refine zP 1 (some 17) ?_ bA17 rfl rfl HT_ ?_ ?_ ?_ ?_; rotate_left
         ·intro w'; go_simp; (with_reducible rfl)
         rotate_left
         ·simp only [Act.put, qA, qB, qC, i64_w]; rfl
         refine zP 2 (some 18) ?_ bA23 rfl rfl HT_ ?_ ?_ ?_ ?_; rotate_left
         ·intro w'; go_simp; (with_reducible rfl)
         rotate_left
         ·simp only [Act.put, qA, qB, qC, i64_w]; rfl
         refine zP 3 (some 19) ?_ bA33 rfl rfl HT_ ?_ ?_ ?_ ?_; rotate_left
         ·intro w'; go_simp; (with_reducible rfl)
         rotate_left
         ·simp only [Act.put, qA, qB, qC, i64_w]; rfl
         refine zP 4 (some 20) ?_ bA42 rfl rfl HT_ ?_ ?_ ?_ ?_; rotate_left
         ·intro w'; go_simp; (with_reducible rfl)
         rotate_left
         ·simp only [Act.put, qA, qB, qC, i64_w]; rfl
         refine zP 5 (some 21) ?_ bA48 rfl rfl HT_ ?_ ?_ ?_ ?_; rotate_left
         ·intro w'; go_simp; (with_reducible rfl)
         rotate_left
         ·simp only [Act.put, qA, qB, qC, i64_w]; rfl
         refine zP 6 (some 22) ?_ bA55 rfl rfl HT_ ?_ ?_ ?_ ?_; rotate_left
         ·intro w'; go_simp; (with_reducible rfl)
         rotate_left
         ·simp only [Act.put, qA, qB, qC, i64_w]; rfl
         refine zP 8 (some 24) ?_ bA57 rfl rfl HT_ ?_ ?_ ?_ ?_; rotate_left
         ·intro w'; go_simp; (with_reducible rfl)
         rotate_left
         ·simp only [Act.put, qA, qB, qC, i64_w]; rfl
         refine zP 9 (some 25) ?_ bA58 rfl rfl HT_ ?_ ?_ ?_ ?_; rotate_left
         ·intro w'; go_simp; (with_reducible rfl)
         rotate_left
         ·simp only [Act.put, qA, qB, qC, i64_w]; rfl
         refine zP 10 (some 26) ?_ bA59 rfl rfl HT_ ?_ ?_ ?_ ?_; rotate_left
         ·intro w'; go_simp; (with_reducible rfl)
         rotate_left
         ·simp only [Act.put, qA, qB, qC, i64_w]; rfl
         refine zZ 7 (some 23) ?_ bA77 rfl rfl HT_ HW_ ?_ hHeld ?_ ?_ ?_; rotate_left
         ·rintro w' ⟨s0, s1⟩; go_simp; (with_reducible rfl)
         rotate_left
         ·simp only [Act.put, qA, qB, qC, i64_w]; rfl
         refine zZ 11 (some 27) ?_ bA82 rfl rfl HT_ HW_ ?_ hHeld ?_ ?_ ?_; rotate_left
         ·rintro w' ⟨s0, s1⟩; go_simp; (with_reducible rfl)
         rotate_left
         ·simp only [Act.put, qA, qB, qC, i64_w]; rfl
         refine zP 12 (some 28) ?_ bA86 rfl rfl HT_ ?_ ?_ ?_ ?_; rotate_left
         ·intro w'; go_simp; (with_reducible rfl)
         rotate_left
         ·simp only [Act.put, qA, qB, qC, i64_w]; rfl
         refine zP 13 (some 29) ?_ bA153 rfl rfl HT_ ?_ ?_ ?_ ?_; rotate_left
         ·intro w'; go_simp; (with_reducible rfl)
         rotate_left
         ·simp only [Act.put, qA, qB, qC, i64_w]; rfl
         refine done_ (done_of HT_.out (by kernel_rfl)) ?_
         try go_wp2
         replace HO_3 := Aside0.mk (Kd.R_drew HO_3.out); replace HB := Aside0.mk (below_drew1 HB.out); have p139 : 0 ≤ ((ji7) : Int) := of_decide_eq_true (by assumption); have q139 : (ji7) < (x3_1.length : Int) := of_decide_eq_true (by assumption); obtain ⟨ad139, e139, hx139_0⟩ := Kd.at_int (Kd.R_reads' HO_3.out).2.2 (ji7) p139 q139; obtain rfl : ad137 = ad139 := (by injection e139); replace p139 := eq_true p139; replace q139 := eq_true q139; have p140 : 0 ≤ (x4_1 : Int) := of_decide_eq_true (by assumption); have q140 : x4_1 < (l0.length : Int) := of_decide_eq_true (by assumption); obtain ⟨ad140, e140, hx140_0⟩ := Kd.at_int HR0.out x4_1 p140 q140; have hw140_0 := hx140_0; obtain rfl : ad138 = ad140 := (by injection e140); (try replace hx140_0 := (HB.out.cell (World.block_lt_of_cell? w _ hx140_0)).trans hx140_0); replace p140 := eq_true p140; replace q140 := eq_true q140; refine start_ (n := 14) (S := fun w' => w'.cell? (ad137.add ((ji7)).toNat) = some (.int .i64 (rd x3_1 (ji7))) ∧ w'.cell? (ad138.add (x4_1).toNat) = some (.int .i64 (rd l0 x4_1))) (ds := []) bA3 (by kernel_rfl) rfl rfl ⟨hx139_0, ((HB.out.cell (World.block_lt_of_cell? w _ hw140_0)).trans hw140_0)⟩ (fun hHeld => ?_); refine with_tabW spec_SortList.tab8 spec_SortList.bits8 (fun HT_ HW_ => ?_); generalize w23.drew = w24 at HO_3 HB hx139_0 hx140_0 hHeld ⊢; refine zP 0 (some 32) ?_ bA10 rfl rfl HT_ ?_ ?_ ?_ ?_; rotate_left
         ·intro w'; go_simp; (with_reducible rfl)
         rotate_left
         ·simp only [Act.put, qA, qB, qC, i64_w]; rfl
         refine zP 1 (some 33) ?_ bA17 rfl rfl HT_ ?_ ?_ ?_ ?_; rotate_left
         ·intro w'; go_simp; (with_reducible rfl)
         rotate_left
         ·simp only [Act.put, qA, qB, qC, i64_w]; rfl
         refine zP 2 (some 34) ?_ bA23 rfl rfl HT_ ?_ ?_ ?_ ?_; rotate_left
         ·intro w'; go_simp; (with_reducible rfl)
         rotate_left
         ·simp only [Act.put, qA, qB, qC, i64_w]; rfl
         refine zP 3 (some 35) ?_ bA33 rfl rfl HT_ ?_ ?_ ?_ ?_; rotate_left
         ·intro w'; go_simp; (with_reducible rfl)
         rotate_left
         ·simp only [Act.put, qA, qB, qC, i64_w]; rfl
         refine zP 4 (some 36) ?_ bA42 rfl rfl HT_ ?_ ?_ ?_ ?_; rotate_left
         ·intro w'; go_simp; (with_reducible rfl)
         rotate_left
         ·simp only [Act.put, qA, qB, qC, i64_w]; rfl
         refine zP 5 (some 37) ?_ bA48 rfl rfl HT_ ?_ ?_ ?_ ?_; rotate_left
         ·intro w'; go_simp; (with_reducible rfl)
         rotate_left
         ·simp only [Act.put, qA, qB, qC, i64_w]; rfl
         refine zP 6 (some 38) ?_ bA55 rfl rfl HT_ ?_ ?_ ?_ ?_; rotate_left
         ·intro w'; go_simp; (with_reducible rfl)
         rotate_left
         ·simp only [Act.put, qA, qB, qC, i64_w]; rfl
         refine zP 8 (some 40) ?_ bA57 rfl rfl HT_ ?_ ?_ ?_ ?_; rotate_left
         ·intro w'; go_simp; (with_reducible rfl)
         rotate_left
         ·simp only [Act.put, qA, qB, qC, i64_w]; rfl
         refine zP 9 (some 41) ?_ bA58 rfl rfl HT_ ?_ ?_ ?_ ?_; rotate_left
         ·intro w'; go_simp; (with_reducible rfl)
         rotate_left
         ·simp only [Act.put, qA, qB, qC, i64_w]; rfl
         refine zP 10 (some 42) ?_ bA59 rfl rfl HT_ ?_ ?_ ?_ ?_; rotate_left
         ·intro w'; go_simp; (with_reducible rfl)
         rotate_left
         ·simp only [Act.put, qA, qB, qC, i64_w]; rfl
         refine zZ 7 (some 39) ?_ bA77 rfl rfl HT_ HW_ ?_ hHeld ?_ ?_ ?_; rotate_left
         ·rintro w' ⟨s0, s1⟩; go_simp; (with_reducible rfl)
         rotate_left
         ·simp only [Act.put, qA, qB, qC, i64_w]; rfl
         refine zZ 11 (some 43) ?_ bA82 rfl rfl HT_ HW_ ?_ hHeld ?_ ?_ ?_; rotate_left
         ·rintro w' ⟨s0, s1⟩; go_simp; (with_reducible rfl)
         rotate_left
         ·simp only [Act.put, qA, qB, qC, i64_w]; rfl
         refine zP 12 (some 44) ?_ bA86 rfl rfl HT_ ?_ ?_ ?_ ?_; rotate_left
         ·intro w'; go_simp; (with_reducible rfl)
         rotate_left
         ·simp only [Act.put, qA, qB, qC, i64_w]; rfl
         refine zP 13 (some 45) ?_ bA153 rfl rfl HT_ ?_ ?_ ?_ ?_; rotate_left
         ·intro w'; go_simp; (with_reducible rfl)
         rotate_left
         ·simp only [Act.put, qA, qB, qC, i64_w]; rfl
         refine done_ (done_of HT_.out (by kernel_rfl)) ?_
         try go_wp2_with (first | ((with_reducible refine gate_dst (N := 46) rfl ?_); refine Kd.R_lit (Kd.int .i64) _ 3 ?hg (N := 46) ?hd (xs := ([] : List Int)) (inner := []) (ok := fun _ => True) (okp := fun _ => True) ?hr ?hp (fun _ hk => hk) trivial (Below.refl _ _) (Nat.le_refl _) (by simp) ?_; (case hd => rfl); (case hg => rfl); (case hr => first | (go_simp; done) | (go_simp; rfl)); (case hp => exact (Reps.none _ _)); intro v142 w25 ho26 hb hg_ hnew_; clear hg_ hnew_; (first | rw [← Ny141.out] at ho26 | (simp only [Int.reduceToNat] at ho26; rw [← Ny141.out] at ho26)); have HO143 := Aside0.mk (Kd.R_lower (Kd.R_new' ho26 (Kd.R_lt (zR HO_3.out))) (zS HB.out)); replace HO_3 := Aside0.mk (Kd.R_elder' (zR HO_3.out) (Kd.R_base ho26) hb); replace HB := Aside0.mk (below_step (zB HB.out) hb); clear hb ho26; have q27 : (x5_2 : Int) ≤ ((x3_1.length : Int) : Int) := of_decide_eq_true (by assumption); obtain ⟨i027, hi027, _, hsz27, _⟩ := info_parts info3; have hroom27 : x3_1.length ≤ co5 := (Kd.R_reads' HO_3.out).2.1; have hC27 : Kd.C (Kd.int .i64) _ (some ad137) x3_1.length x3_1 := (Kd.R_reads' HO_3.out).2.2; have q027 : (0 : Int) ≤ (x5_2 : Int) := of_decide_eq_true (by assumption); have hcut27 := cut_from (P := Tryd.prog) 24 3 .i64 Tryd.underlying24 hi027 1 hsz27 (some ad137) x3_1.length co5 x5_2 q027 q27; have hr27 := Kd.C_drop (m := (x5_2 : Int).toNat) (c := co5) hC27 (by omega) hroom27; obtain ⟨A27, hA27⟩ : ∃ A1, A1 = (if co5 = (x5_2 : Int).toNat then (some ad137) else ((some ad137) : Option Addr).map (·.add ((x5_2 : Int).toNat * 1))) := ⟨_, rfl⟩; obtain ⟨c27, hc27⟩ : ∃ c1, c1 = co5 - (x5_2 : Int).toNat := ⟨_, rfl⟩; have hy27 : y144.length = x3_1.length - (x5_2 : Int).toNat := (by rw [Ny144.out, List.length_drop] <;> omega); rw [show (x3_1).drop (x5_2 : Int).toNat = y144 from Ny144.out.symm] at hr27; replace hr27 : Kd.C (Kd.int .i64) _ A27 y144.length y144 := (by rw [hA27]; exact hr27); rw [← hy27, ← hA27, ← hc27] at hcut27; have HR147 := Aside0.mk hr27; have HC147 := Aside0.mk (show y144.length ≤ c27 from by rw [hy27, hc27]; exact Nat.sub_le_sub_right hroom27 _); clear hr27 hC27 hroom27 hi027 hsz27 hc27; have KY27 := Aside0.mk hy27; have KA27 := Aside0.mk hA27; clear hy27 hA27; have KL27 := Aside0.mk (show (x5_2 : Int).toNat ≤ x3_1.length from by omega); replace q27 := eq_true q27) | ((with_reducible refine gate_builtin (b := .append) (xs := #[.tmp 46, .tmp 49]) rfl ?_); at_builtin; refine Kd.R_append_rows (Kd.int .i64) (w0 := w) w.heap.size rfl (.tmp 46) (.tmp 49) 24 3 (.int .i64 0) 8 rfl Tryd.underlying24 info3 rfl (by decide) (by omega) v142 y141 y144 _ _ _ (fun k_ => some k_ ≠ (.slice (some ad137) x3_1.length co5 : Value).ownBlock) (fun _ => False) rfl rfl ?aO ?aR (fun _ _ h => h) (fun _ h => h.elim) ?aF ?aB ?aS ?aL ?_; (case aR => repeat (first | exact (zC HR147.out) | (with_reducible refine Kd.C_alloc ?_ _) | (with_reducible refine Kd.C_drewN ?_ _) | (with_reducible refine Kd.C_drew ?_))); (case aB => exact (zB HB.out)); (case aF => exact (fun k_ hk => Kd.fresh' (Kd.R_lt (zR HO_3.out)) k_ hk)); (case aO => exact (zR (Kd.R_mono HO143.out (fun _ hk => hk.2)))); (case aS => exact (zS HB.out)); (case aL => have := LMc19.out; omega); intro v149 w28 ho hb hg hat; rw [← Ny148.out] at ho; replace HB := Aside0.mk (hb); replace HR147 := Aside0.mk ((show Kd.C (Kd.int .i64) w28 A27 y144.length y144 from by rw [Ny144.out, KA27.out]; exact Kd.C_drop (m := (x5_2 : Int).toNat) (c := co5) ((Kd.R_reads' (Kd.R_after (ok := (fun _ => True)) (zR HO_3.out) hg hat)).2.2) KL27.out ((Kd.R_reads' (Kd.R_after (ok := (fun _ => True)) (zR HO_3.out) hg hat)).2.1))); replace HO_3 := Aside0.mk (Kd.R_after (ok := (fun _ => True)) (zR HO_3.out) hg hat); have HO150 := Aside0.mk (ho); clear HO143; clear ho hb hg hat))
         replace HO_3 := Aside0.mk (Kd.R_drew HO_3.out); replace HO150 := Aside0.mk (Kd.R_drew HO150.out); replace HR147 := Aside0.mk (Kd.C_drew HR147.out); replace HB := Aside0.mk (below_drew1 HB.out); have q30 : (x5_2 : Int) ≤ ((x3_1.length : Int) : Int) := of_decide_eq_true (by assumption); obtain ⟨i030, hi030, _, hsz30, _⟩ := info_parts info3; have hcut30 := cut_to (P := Tryd.prog) 24 3 .i64 Tryd.underlying24 hi030 (some ad137) x3_1.length co5 x5_2 (of_decide_eq_true (by assumption)) q30 (Kd.R_reads' HO_3.out).2.1; have hr30 := Kd.R_take (m := (x5_2 : Int).toNat) HO_3.out (by omega); have hy30 : y151.length = (x5_2 : Int).toNat := (by rw [Ny151.out, List.length_take]; omega); rw [← Ny151.out] at hr30; rw [← hy30] at hr30 hcut30; clear hy30 hi030 hsz30 HO_3; have HO153 := Aside0.mk hr30; clear hr30; replace q30 := eq_true q30; have p154 : 0 ≤ (x4_1 : Int) := of_decide_eq_true (by assumption); have q154 : x4_1 < (l0.length : Int) := of_decide_eq_true (by assumption); obtain ⟨ad154, e154, hx154_0⟩ := Kd.at_int HR0.out x4_1 p154 q154; have hw154_0 := hx154_0; obtain rfl : ad138 = ad154 := (by injection e154); (try replace hx154_0 := (HB.out.cell (World.block_lt_of_cell? w _ hx154_0)).trans hx154_0); replace p154 := eq_true p154; replace q154 := eq_true q154; refine start_ (n := 12) (S := fun w' => w'.cell? (ad138.add (x4_1).toNat) = some (.int .i64 (rd l0 x4_1))) (ds := []) bA5 (by kernel_rfl) rfl rfl (((HB.out.cell (World.block_lt_of_cell? w _ hw154_0)).trans hw154_0)) (fun hHeld => ?_); refine with_tabW spec_SortList.tab10 spec_SortList.bits10 (fun HT_ HW_ => ?_); generalize w28.drew = w29 at HO_3 HO150 HR147 HB HO153 hx154_0 hHeld ⊢; refine zP 0 (some 51) ?_ bA12 rfl rfl HT_ ?_ ?_ ?_ ?_; rotate_left
         ·intro w'; go_simp; (with_reducible rfl)
         rotate_left
         ·simp only [Act.put, qA, qB, qC, i64_w]; rfl
         refine zP 1 (some 52) ?_ bA19 rfl rfl HT_ ?_ ?_ ?_ ?_; rotate_left
         ·intro w'; go_simp; (with_reducible rfl)
         rotate_left
         ·simp only [Act.put, qA, qB, qC, i64_w]; rfl
         refine zP 2 (some 53) ?_ bA25 rfl rfl HT_ ?_ ?_ ?_ ?_; rotate_left
         ·intro w'; go_simp; (with_reducible rfl)
         rotate_left
         ·simp only [Act.put, qA, qB, qC, i64_w]; rfl
         refine zP 3 (some 54) ?_ bA34 rfl rfl HT_ ?_ ?_ ?_ ?_; rotate_left
         ·intro w'; go_simp; (with_reducible rfl)
         rotate_left
         ·simp only [Act.put, qA, qB, qC, i64_w]; rfl
         refine zP 4 (some 55) ?_ bA43 rfl rfl HT_ ?_ ?_ ?_ ?_; rotate_left
         ·intro w'; go_simp; (with_reducible rfl)
         rotate_left
         ·simp only [Act.put, qA, qB, qC, i64_w]; rfl
         refine zP 5 (some 56) ?_ bA49 rfl rfl HT_ ?_ ?_ ?_ ?_; rotate_left
         ·intro w'; go_simp; (with_reducible rfl)
         rotate_left
         ·simp only [Act.put, qA, qB, qC, i64_w]; rfl
         refine zP 9 (some 60) ?_ bA50 rfl rfl HT_ ?_ ?_ ?_ ?_; rotate_left
         ·intro w'; go_simp; (with_reducible rfl)
         rotate_left
         ·simp only [Act.put, qA, qB, qC, i64_w]; rfl
         refine zZ 6 (some 57) ?_ bA56 rfl rfl HT_ HW_ ?_ hHeld ?_ ?_ ?_; rotate_left
         ·intro w' s0; go_simp; (with_reducible rfl)
         rotate_left
         ·simp only [Act.put, qA, qB, qC, i64_w]; rfl
         refine one_ (i := 7) (N := some 58) bA65 rfl rfl (one_of HT_.out (by kernel_rfl)) (by decide) (fun K hK => ?_); refine value_ (w1 := ?_) (v := ?_) (by rfl) rfl ?_ ?_; rotate_left 2
         ·go_simp; constructor
          ·rfl
          ·rfl
         refine hK.out _ _ ((World.cell?_alloc_lt _ _ _ (World.block_lt_of_cell? _ _ (((HB.out.cell (World.block_lt_of_cell? w _ hw154_0)).trans hw154_0)))).trans (((HB.out.cell (World.block_lt_of_cell? w _ hw154_0)).trans hw154_0))) (fun hHeld => ?_); clear hK K; refine norm_ (a' := ?_) ?_ ?_; rotate_left
         ·show Act.put _ (some 58) _ = _; simp only [Act.put, qA, qB, qC, i64_w]; rfl
         refine one_ (i := 8) (N := some 59) bA74 rfl rfl (one_of HT_.out (by kernel_rfl)) (by decide) (fun K hK => ?_); refine Kd.R_append_step (Kd.int .i64) (w0 := w) w.heap.size (by rfl) (.tmp 53) (.tmp 58) 24 3 (.int .i64 0) 8 rfl Tryd.underlying24 info3 rfl (by decide) (by omega) (.slice (some ad137) y151.length co5) y151 (rd l0 x4_1) [.int .i64 (rd l0 x4_1)] (fun k_ => some k_ ≠ (v149 : Value).ownBlock) (fun _ => False) rfl rfl ?aP (fun _ hk => hk.elim) ?aF ?aO ?aB ?aS ?aL ?_; (case aP => exact rfl); (case aB => exact (zB HB.out)); (case aF => exact (fun k_ hk => Kd.fresh' (Kd.R_lt (zR HO150.out)) k_ hk)); (case aO => exact (zR (Kd.R_mono HO153.out (fun _ hk => hk.2)))); (case aS => exact (zS HB.out)); (case aL => have := LMc21.out; omega); intro v156 w31 ho hb hg hat; rw [← Ny155.out] at ho; replace HO150 := Aside0.mk (Kd.R_after (ok := (fun _ => True)) (zR (Kd.R_mono HO150.out (fun _ hk => ⟨trivial, by first | exact hk | (rw [qO] at hk ⊢; exact hk)⟩))) hg hat); replace HB := Aside0.mk (hb); have HO157 := Aside0.mk (ho); clear HO153; clear ho hb hg hat; obtain ⟨Ao33, co33, eo33⟩ := Kd.R_slice HO150.out; (first | subst eo33 | (injection eo33 with f1_ f2_ f3_; have f4_ := f1_.symm; have f5_ := f3_.symm; clear f1_ f2_ f3_; subst f4_; subst f5_)); refine hK.out _ _ (((HB.out.cell (World.block_lt_of_cell? w _ hw154_0)).trans hw154_0)) (fun hHeld => ?_); clear hK K; refine norm_ (a' := ?_) ?_ ?_; rotate_left
         ·show Act.put _ (some 59) _ = _; simp only [Act.put, qA, qB, qC, i64_w]; rfl
         refine one_ (i := 10) (N := some 61) bA79 rfl rfl (one_of HT_.out (by kernel_rfl)) (by decide) (fun K hK => ?_); refine Kd.R_append_rows_step (Kd.int .i64) (w0 := w) w.heap.size (by rfl) (.tmp 59) (.tmp 60) 24 3 (.int .i64 0) 8 rfl Tryd.underlying24 info3 rfl (by decide) (by omega) v156 y155 y148 _ _ _ (fun k_ => some k_ ≠ (.slice Ao33 y148.length co33 : Value).ownBlock) (fun _ => False) rfl rfl ?aO ?aR (fun _ _ h => h) (fun _ h => h.elim) ?aF ?aB ?aS ?aL ?_; (case aR => repeat (first | exact (Kd.R_reads' HO150.out).2.2 | (with_reducible refine Kd.C_alloc ?_ _) | (with_reducible refine Kd.C_drewN ?_ _) | (with_reducible refine Kd.C_drew ?_))); (case aB => exact (zB HB.out)); (case aF => exact (fun k_ hk => Kd.fresh' (Kd.R_lt (zR HO150.out)) k_ hk)); (case aO => exact (zR HO157.out)); (case aS => exact (zS HB.out)); (case aL => have := LMc22.out; omega); intro v159 w32 ho hb hg hat; rw [← Ny158.out] at ho; replace HO150 := Aside0.mk (Kd.R_after (ok := (fun _ => True)) (zR HO150.out) hg hat); replace HB := Aside0.mk (hb); have HO160 := Aside0.mk (ho); clear HO157; clear ho hb hg hat; refine hK.out _ _ (((HB.out.cell (World.block_lt_of_cell? w _ hw154_0)).trans hw154_0)) (fun hHeld => ?_); clear hK K; refine norm_ (a' := ?_) ?_ ?_; rotate_left
         ·show Act.put _ (some 61) _ = _; simp only [Act.put, qA, qB, qC, i64_w]; rfl
         refine zP 11 (some 3) ?_ bA155 rfl rfl HT_ ?_ ?_ ?_ ?_; rotate_left
         ·intro w'; go_simp; (with_reducible rfl)
         rotate_left
         ·simp only [Act.put, qA, qB, qC, i64_w]; rfl
         refine done_ (done_of HT_.out (by kernel_rfl)) ?_
         try go_wp2
         go_roundg k2
         case measure => have := HK1.out; have := HK2.out; omega
         case rel => exact ⟨(y158), (wrap64 (x4_1 + 1)), (by first | rfl | (simp; done) | (simp [*]; done)), H', ⟨by have := HK1.out; have := HK2.out; omega⟩, ⟨zR (Kd.R_mono HO160.out (fun _ hk => trivial))⟩, ⟨zB HB.out⟩⟩
      ·rw [if_neg c6] at H; have c6b0 : decide (0 < x5_2) = false := decide_eq_false c6; clear c6; obtain ⟨y161, hy161⟩ : ∃ y_ : List Int, y_ = (([] : List Int)) := ⟨_, rfl⟩; replace H : (if 0 ≤ x5_2 then (if x5_2 ≤ (x3_1.length : Int) then ((some (x3_1.drop (x5_2 : Int).toNat : List Int)).bind fun y164 => (if y161.length + y164.length < 17592186044416 then ((some (y161 ++ y164 : List Int)).bind fun y168 => ((some (x3_1.take (x5_2 : Int).toNat : List Int)).bind fun y171 => (if 0 ≤ x4_1 then (if x4_1 < (l0.length : Int) then (if y171.length < 17592186044416 then ((some (y171 ++ [rd l0 x4_1] : List Int)).bind fun y175 => (if y175.length + y168.length < 17592186044416 then (spec_SortList.l0 k2 l0 (y175 ++ y168) (wrap64 (x4_1 + 1))) else (none))) else (none)) else (none)) else (none)))) else (none))) else (none)) else (none)) = some r := by first | (rw [hy161]; with_reducible exact H) | (have H2_ := (Option.bind_some _ _).symm.trans H; rw [hy161]; with_reducible exact H2_) | (have H2_ := (Option.bind_some _ _).symm.trans H; with_reducible exact H2_) | with_reducible exact H | (rw [hy161]; exact H) | exact H
       have Ny161 := Aside0.mk hy161; clear hy161; obtain ⟨c34, H⟩ := zi H; have c34b0 := eq_true c34; have c34b1 : decide (0 ≤ x5_2) = true := decide_eq_true c34; clear c34; obtain ⟨c35, H⟩ := zi H; have c35b0 := eq_true c35; have c35b1 : decide (x5_2 ≤ (x3_1.length : Int)) = true := decide_eq_true c35; clear c35; obtain ⟨y164, Ny164⟩ : ∃ y_ : List Int, Aside0 (y_ = (x3_1.drop (x5_2 : Int).toNat)) := ⟨_, ⟨rfl⟩⟩; (try rw [Option.bind_some] at H); (try rw [← Ny164.out] at H); obtain ⟨c36, H⟩ := zi H; have LMc36 := Aside0.mk c36; clear c36; obtain ⟨y168, Ny168⟩ : ∃ y_ : List Int, Aside0 (y_ = (y161 ++ y164)) := ⟨_, ⟨rfl⟩⟩; (try rw [Option.bind_some] at H); (try rw [← Ny168.out] at H); have c37b0 := eq_true (of_decide_eq_true (by assumption) : x5_2 ≤ (x3_1.length : Int)); obtain ⟨y171, Ny171⟩ : ∃ y_ : List Int, Aside0 (y_ = (x3_1.take (x5_2 : Int).toNat)) := ⟨_, ⟨rfl⟩⟩; (try rw [Option.bind_some] at H); (try rw [← Ny171.out] at H); obtain ⟨c38, H⟩ := zi H; have c38b0 : decide (0 ≤ x4_1) = true := decide_eq_true c38; clear c38; obtain ⟨c39, H⟩ := zi H; have c39b0 : decide (x4_1 < (l0.length : Int)) = true := decide_eq_true c39; clear c39; obtain ⟨c40, H⟩ := zi H; have LMc40 := Aside0.mk c40; clear c40; obtain ⟨y175, Ny175⟩ : ∃ y_ : List Int, Aside0 (y_ = (y171 ++ [rd l0 x4_1])) := ⟨_, ⟨rfl⟩⟩; (try rw [Option.bind_some] at H); (try rw [← Ny175.out] at H); obtain ⟨c41, H⟩ := zi H; have LMc41 := Aside0.mk c41; clear c41; obtain ⟨y178, Ny178⟩ : ∃ y_ : List Int, Aside0 (y_ = (y175 ++ y168)) := ⟨_, ⟨rfl⟩⟩; (try rw [Option.bind_some] at H); (try rw [← Ny178.out] at H); have H' := Aside0.mk H; clear H
       try go_wp2
       replace HO_3 := Aside0.mk (Kd.R_drew HO_3.out); replace HB := Aside0.mk (below_drew1 HB.out); refine start_ (n := 14) (S := fun w' => True) (ds := []) bA3 (by kernel_rfl) rfl rfl trivial (fun hHeld => ?_); refine with_tabW spec_SortList.tab6 spec_SortList.bits6 (fun HT_ HW_ => ?_); generalize wr.drew = w42 at HO_3 HB hHeld ⊢; refine zP 0 (some 16) ?_ bA10 rfl rfl HT_ ?_ ?_ ?_ ?_; rotate_left
       ·intro w'; go_simp; (with_reducible rfl)
       rotate_left
       ·simp only [Act.put, qA, qB, qC, i64_w]; rfl
       refine zP 1 (some 17) ?_ bA17 rfl rfl HT_ ?_ ?_ ?_ ?_; rotate_left
       ·intro w'; go_simp; (with_reducible rfl)
       rotate_left
       ·simp only [Act.put, qA, qB, qC, i64_w]; rfl
       refine zP 2 (some 18) ?_ bA23 rfl rfl HT_ ?_ ?_ ?_ ?_; rotate_left
       ·intro w'; go_simp; (with_reducible rfl)
       rotate_left
       ·simp only [Act.put, qA, qB, qC, i64_w]; rfl
       refine zU 3 (some 19) bA33 rfl rfl HT_ ?_ ?_ ?_; rotate_left
       ·simp only [Act.put, qA, qB, qC, i64_w]; rfl
       refine zU 4 (some 20) bA42 rfl rfl HT_ ?_ ?_ ?_; rotate_left
       ·simp only [Act.put, qA, qB, qC, i64_w]; rfl
       refine zU 5 (some 21) bA48 rfl rfl HT_ ?_ ?_ ?_; rotate_left
       ·simp only [Act.put, qA, qB, qC, i64_w]; rfl
       refine zU 6 (some 22) bA55 rfl rfl HT_ ?_ ?_ ?_; rotate_left
       ·simp only [Act.put, qA, qB, qC, i64_w]; rfl
       refine zU 7 (some 23) bA64 rfl rfl HT_ ?_ ?_ ?_; rotate_left
       ·simp only [Act.put, qA, qB, qC, i64_w]; rfl
       refine zU 8 (some 24) bA69 rfl rfl HT_ ?_ ?_ ?_; rotate_left
       ·simp only [Act.put, qA, qB, qC, i64_w]; rfl
       refine zU 9 (some 25) bA72 rfl rfl HT_ ?_ ?_ ?_; rotate_left
       ·simp only [Act.put, qA, qB, qC, i64_w]; rfl
       refine zU 10 (some 26) bA77 rfl rfl HT_ ?_ ?_ ?_; rotate_left
       ·simp only [Act.put, qA, qB, qC, i64_w]; rfl
       refine zU 11 (some 27) bA82 rfl rfl HT_ ?_ ?_ ?_; rotate_left
       ·simp only [Act.put, qA, qB, qC, i64_w]; rfl
       refine zU 12 (some 28) bA86 rfl rfl HT_ ?_ ?_ ?_; rotate_left
       ·simp only [Act.put, qA, qB, qC, i64_w]; rfl
       refine zP 13 (some 29) ?_ bA153 rfl rfl HT_ ?_ ?_ ?_ ?_; rotate_left
       ·intro w'; go_simp; (with_reducible rfl)
       rotate_left
       ·simp only [Act.put, qA, qB, qC, i64_w]; rfl
       refine done_ (done_of HT_.out (by kernel_rfl)) ?_
       try go_wp2
       replace HO_3 := Aside0.mk (Kd.R_drew HO_3.out); replace HB := Aside0.mk (below_drew1 HB.out); refine start_ (n := 14) (S := fun w' => True) (ds := []) bA3 (by kernel_rfl) rfl rfl trivial (fun hHeld => ?_); refine with_tabW spec_SortList.tab8 spec_SortList.bits8 (fun HT_ HW_ => ?_); generalize w42.drew = w43 at HO_3 HB hHeld ⊢; refine zP 0 (some 32) ?_ bA10 rfl rfl HT_ ?_ ?_ ?_ ?_; rotate_left
       ·intro w'; go_simp; (with_reducible rfl)
       rotate_left
       ·simp only [Act.put, qA, qB, qC, i64_w]; rfl
       refine zP 1 (some 33) ?_ bA17 rfl rfl HT_ ?_ ?_ ?_ ?_; rotate_left
       ·intro w'; go_simp; (with_reducible rfl)
       rotate_left
       ·simp only [Act.put, qA, qB, qC, i64_w]; rfl
       refine zP 2 (some 34) ?_ bA23 rfl rfl HT_ ?_ ?_ ?_ ?_; rotate_left
       ·intro w'; go_simp; (with_reducible rfl)
       rotate_left
       ·simp only [Act.put, qA, qB, qC, i64_w]; rfl
       refine zU 3 (some 35) bA33 rfl rfl HT_ ?_ ?_ ?_; rotate_left
       ·simp only [Act.put, qA, qB, qC, i64_w]; rfl
       refine zU 4 (some 36) bA42 rfl rfl HT_ ?_ ?_ ?_; rotate_left
       ·simp only [Act.put, qA, qB, qC, i64_w]; rfl
       refine zU 5 (some 37) bA48 rfl rfl HT_ ?_ ?_ ?_; rotate_left
       ·simp only [Act.put, qA, qB, qC, i64_w]; rfl
       refine zU 6 (some 38) bA55 rfl rfl HT_ ?_ ?_ ?_; rotate_left
       ·simp only [Act.put, qA, qB, qC, i64_w]; rfl
       refine zU 7 (some 39) bA64 rfl rfl HT_ ?_ ?_ ?_; rotate_left
       ·simp only [Act.put, qA, qB, qC, i64_w]; rfl
       refine zU 8 (some 40) bA69 rfl rfl HT_ ?_ ?_ ?_; rotate_left
       ·simp only [Act.put, qA, qB, qC, i64_w]; rfl
       refine zU 9 (some 41) bA72 rfl rfl HT_ ?_ ?_ ?_; rotate_left
       ·simp only [Act.put, qA, qB, qC, i64_w]; rfl
       refine zU 10 (some 42) bA77 rfl rfl HT_ ?_ ?_ ?_; rotate_left
       ·simp only [Act.put, qA, qB, qC, i64_w]; rfl
       refine zU 11 (some 43) bA82 rfl rfl HT_ ?_ ?_ ?_; rotate_left
       ·simp only [Act.put, qA, qB, qC, i64_w]; rfl
       refine zU 12 (some 44) bA86 rfl rfl HT_ ?_ ?_ ?_; rotate_left
       ·simp only [Act.put, qA, qB, qC, i64_w]; rfl
       refine zP 13 (some 45) ?_ bA153 rfl rfl HT_ ?_ ?_ ?_ ?_; rotate_left
       ·intro w'; go_simp; (with_reducible rfl)
       rotate_left
       ·simp only [Act.put, qA, qB, qC, i64_w]; rfl
       refine done_ (done_of HT_.out (by kernel_rfl)) ?_
       try go_wp2_with (first | ((with_reducible refine gate_dst (N := 46) rfl ?_); refine Kd.R_lit (Kd.int .i64) _ 3 ?hg (N := 46) ?hd (xs := ([] : List Int)) (inner := []) (ok := fun _ => True) (okp := fun _ => True) ?hr ?hp (fun _ hk => hk) trivial (Below.refl _ _) (Nat.le_refl _) (by simp) ?_; (case hd => rfl); (case hg => rfl); (case hr => first | (go_simp; done) | (go_simp; rfl)); (case hp => exact (Reps.none _ _)); intro v162 w44 ho45 hb hg_ hnew_; clear hg_ hnew_; (first | rw [← Ny161.out] at ho45 | (simp only [Int.reduceToNat] at ho45; rw [← Ny161.out] at ho45)); have HO163 := Aside0.mk (Kd.R_lower (Kd.R_new' ho45 (Kd.R_lt (zR HO_3.out))) (zS HB.out)); replace HO_3 := Aside0.mk (Kd.R_elder' (zR HO_3.out) (Kd.R_base ho45) hb); replace HB := Aside0.mk (below_step (zB HB.out) hb); clear hb ho45; have q46 : (x5_2 : Int) ≤ ((x3_1.length : Int) : Int) := of_decide_eq_true (by assumption); obtain ⟨i046, hi046, _, hsz46, _⟩ := info_parts info3; have hroom46 : x3_1.length ≤ co5 := (Kd.R_reads' HO_3.out).2.1; have hC46 : Kd.C (Kd.int .i64) _ Ao5 x3_1.length x3_1 := (Kd.R_reads' HO_3.out).2.2; have q046 : (0 : Int) ≤ (x5_2 : Int) := of_decide_eq_true (by assumption); have hcut46 := cut_from (P := Tryd.prog) 24 3 .i64 Tryd.underlying24 hi046 1 hsz46 Ao5 x3_1.length co5 x5_2 q046 q46; have hr46 := Kd.C_drop (m := (x5_2 : Int).toNat) (c := co5) hC46 (by omega) hroom46; obtain ⟨A46, hA46⟩ : ∃ A1, A1 = (if co5 = (x5_2 : Int).toNat then Ao5 else (Ao5 : Option Addr).map (·.add ((x5_2 : Int).toNat * 1))) := ⟨_, rfl⟩; obtain ⟨c46, hc46⟩ : ∃ c1, c1 = co5 - (x5_2 : Int).toNat := ⟨_, rfl⟩; have hy46 : y164.length = x3_1.length - (x5_2 : Int).toNat := (by rw [Ny164.out, List.length_drop] <;> omega); rw [show (x3_1).drop (x5_2 : Int).toNat = y164 from Ny164.out.symm] at hr46; replace hr46 : Kd.C (Kd.int .i64) _ A46 y164.length y164 := (by rw [hA46]; exact hr46); rw [← hy46, ← hA46, ← hc46] at hcut46; have HR167 := Aside0.mk hr46; have HC167 := Aside0.mk (show y164.length ≤ c46 from by rw [hy46, hc46]; exact Nat.sub_le_sub_right hroom46 _); clear hr46 hC46 hroom46 hi046 hsz46 hc46; have KY46 := Aside0.mk hy46; have KA46 := Aside0.mk hA46; clear hy46 hA46; have KL46 := Aside0.mk (show (x5_2 : Int).toNat ≤ x3_1.length from by omega); replace q46 := eq_true q46) | ((with_reducible refine gate_builtin (b := .append) (xs := #[.tmp 46, .tmp 49]) rfl ?_); at_builtin; refine Kd.R_append_rows (Kd.int .i64) (w0 := w) w.heap.size rfl (.tmp 46) (.tmp 49) 24 3 (.int .i64 0) 8 rfl Tryd.underlying24 info3 rfl (by decide) (by omega) v162 y161 y164 _ _ _ (fun k_ => some k_ ≠ (.slice Ao5 x3_1.length co5 : Value).ownBlock) (fun _ => False) rfl rfl ?aO ?aR (fun _ _ h => h) (fun _ h => h.elim) ?aF ?aB ?aS ?aL ?_; (case aR => repeat (first | exact (zC HR167.out) | (with_reducible refine Kd.C_alloc ?_ _) | (with_reducible refine Kd.C_drewN ?_ _) | (with_reducible refine Kd.C_drew ?_))); (case aB => exact (zB HB.out)); (case aF => exact (fun k_ hk => Kd.fresh' (Kd.R_lt (zR HO_3.out)) k_ hk)); (case aO => exact (zR (Kd.R_mono HO163.out (fun _ hk => hk.2)))); (case aS => exact (zS HB.out)); (case aL => have := LMc36.out; omega); intro v169 w47 ho hb hg hat; rw [← Ny168.out] at ho; replace HB := Aside0.mk (hb); replace HR167 := Aside0.mk ((show Kd.C (Kd.int .i64) w47 A46 y164.length y164 from by rw [Ny164.out, KA46.out]; exact Kd.C_drop (m := (x5_2 : Int).toNat) (c := co5) ((Kd.R_reads' (Kd.R_after (ok := (fun _ => True)) (zR HO_3.out) hg hat)).2.2) KL46.out ((Kd.R_reads' (Kd.R_after (ok := (fun _ => True)) (zR HO_3.out) hg hat)).2.1))); replace HO_3 := Aside0.mk (Kd.R_after (ok := (fun _ => True)) (zR HO_3.out) hg hat); have HO170 := Aside0.mk (ho); clear HO163; clear ho hb hg hat))
       replace HO_3 := Aside0.mk (Kd.R_drew HO_3.out); replace HO170 := Aside0.mk (Kd.R_drew HO170.out); replace HR167 := Aside0.mk (Kd.C_drew HR167.out); replace HB := Aside0.mk (below_drew1 HB.out); have q49 : (x5_2 : Int) ≤ ((x3_1.length : Int) : Int) := of_decide_eq_true (by assumption); obtain ⟨i049, hi049, _, hsz49, _⟩ := info_parts info3; have hcut49 := cut_to (P := Tryd.prog) 24 3 .i64 Tryd.underlying24 hi049 Ao5 x3_1.length co5 x5_2 (of_decide_eq_true (by assumption)) q49 (Kd.R_reads' HO_3.out).2.1; have hr49 := Kd.R_take (m := (x5_2 : Int).toNat) HO_3.out (by omega); have hy49 : y171.length = (x5_2 : Int).toNat := (by rw [Ny171.out, List.length_take]; omega); rw [← Ny171.out] at hr49; rw [← hy49] at hr49 hcut49; clear hy49 hi049 hsz49 HO_3; have HO173 := Aside0.mk hr49; clear hr49; replace q49 := eq_true q49; have p174 : 0 ≤ (x4_1 : Int) := of_decide_eq_true (by assumption); have q174 : x4_1 < (l0.length : Int) := of_decide_eq_true (by assumption); obtain ⟨ad174, e174, hx174_0⟩ := Kd.at_int HR0.out x4_1 p174 q174; have hw174_0 := hx174_0
       cases e174; (try replace hx174_0 := (HB.out.cell (World.block_lt_of_cell? w _ hx174_0)).trans hx174_0); replace p174 := eq_true p174; replace q174 := eq_true q174; refine start_ (n := 12) (S := fun w' => w'.cell? (ad174.add (x4_1).toNat) = some (.int .i64 (rd l0 x4_1))) (ds := []) bA5 (by kernel_rfl) rfl rfl (((HB.out.cell (World.block_lt_of_cell? w _ hw174_0)).trans hw174_0)) (fun hHeld => ?_); refine with_tabW spec_SortList.tab10 spec_SortList.bits10 (fun HT_ HW_ => ?_); generalize w47.drew = w48 at HO_3 HO170 HR167 HB HO173 hx174_0 hHeld ⊢; refine zP 0 (some 51) ?_ bA12 rfl rfl HT_ ?_ ?_ ?_ ?_; rotate_left
       ·intro w'; go_simp; (with_reducible rfl)
       rotate_left
       ·simp only [Act.put, qA, qB, qC, i64_w]; rfl
       refine zP 1 (some 52) ?_ bA19 rfl rfl HT_ ?_ ?_ ?_ ?_; rotate_left
       ·intro w'; go_simp; (with_reducible rfl)
       rotate_left
       ·simp only [Act.put, qA, qB, qC, i64_w]; rfl
       refine zP 2 (some 53) ?_ bA25 rfl rfl HT_ ?_ ?_ ?_ ?_; rotate_left
       ·intro w'; go_simp; (with_reducible rfl)
       rotate_left
       ·simp only [Act.put, qA, qB, qC, i64_w]; rfl
       refine zP 3 (some 54) ?_ bA34 rfl rfl HT_ ?_ ?_ ?_ ?_; rotate_left
       ·intro w'; go_simp; (with_reducible rfl)
       rotate_left
       ·simp only [Act.put, qA, qB, qC, i64_w]; rfl
       refine zP 4 (some 55) ?_ bA43 rfl rfl HT_ ?_ ?_ ?_ ?_; rotate_left
       ·intro w'; go_simp; (with_reducible rfl)
       rotate_left
       ·simp only [Act.put, qA, qB, qC, i64_w]; rfl
       refine zP 5 (some 56) ?_ bA49 rfl rfl HT_ ?_ ?_ ?_ ?_; rotate_left
       ·intro w'; go_simp; (with_reducible rfl)
       rotate_left
       ·simp only [Act.put, qA, qB, qC, i64_w]; rfl
       refine zP 9 (some 60) ?_ bA50 rfl rfl HT_ ?_ ?_ ?_ ?_; rotate_left
       ·intro w'; go_simp; (with_reducible rfl)
       rotate_left
       ·simp only [Act.put, qA, qB, qC, i64_w]; rfl
       refine zZ 6 (some 57) ?_ bA56 rfl rfl HT_ HW_ ?_ hHeld ?_ ?_ ?_; rotate_left
       ·intro w' s0; go_simp; (with_reducible rfl)
       rotate_left
       ·simp only [Act.put, qA, qB, qC, i64_w]; rfl
       refine one_ (i := 7) (N := some 58) bA65 rfl rfl (one_of HT_.out (by kernel_rfl)) (by decide) (fun K hK => ?_); refine value_ (w1 := ?_) (v := ?_) (by rfl) rfl ?_ ?_; rotate_left 2
       ·go_simp; constructor
        ·rfl
        ·rfl
       refine hK.out _ _ ((World.cell?_alloc_lt _ _ _ (World.block_lt_of_cell? _ _ (((HB.out.cell (World.block_lt_of_cell? w _ hw174_0)).trans hw174_0)))).trans (((HB.out.cell (World.block_lt_of_cell? w _ hw174_0)).trans hw174_0))) (fun hHeld => ?_); clear hK K; refine norm_ (a' := ?_) ?_ ?_; rotate_left
       ·show Act.put _ (some 58) _ = _; simp only [Act.put, qA, qB, qC, i64_w]; rfl
       refine one_ (i := 8) (N := some 59) bA74 rfl rfl (one_of HT_.out (by kernel_rfl)) (by decide) (fun K hK => ?_); refine Kd.R_append_step (Kd.int .i64) (w0 := w) w.heap.size (by rfl) (.tmp 53) (.tmp 58) 24 3 (.int .i64 0) 8 rfl Tryd.underlying24 info3 rfl (by decide) (by omega) (.slice Ao5 y171.length co5) y171 (rd l0 x4_1) [.int .i64 (rd l0 x4_1)] (fun k_ => some k_ ≠ (v169 : Value).ownBlock) (fun _ => False) rfl rfl ?aP (fun _ hk => hk.elim) ?aF ?aO ?aB ?aS ?aL ?_; (case aP => exact rfl); (case aB => exact (zB HB.out)); (case aF => exact (fun k_ hk => Kd.fresh' (Kd.R_lt (zR HO170.out)) k_ hk)); (case aO => exact (zR (Kd.R_mono HO173.out (fun _ hk => hk.2)))); (case aS => exact (zS HB.out)); (case aL => have := LMc40.out; omega); intro v176 w50 ho hb hg hat; rw [← Ny175.out] at ho; replace HO170 := Aside0.mk (Kd.R_after (ok := (fun _ => True)) (zR (Kd.R_mono HO170.out (fun _ hk => ⟨trivial, by first | exact hk | (rw [qO] at hk ⊢; exact hk)⟩))) hg hat); replace HB := Aside0.mk (hb); have HO177 := Aside0.mk (ho); clear HO173; clear ho hb hg hat; obtain ⟨Ao52, co52, eo52⟩ := Kd.R_slice HO170.out; (first | subst eo52 | (injection eo52 with f1_ f2_ f3_; have f4_ := f1_.symm; have f5_ := f3_.symm; clear f1_ f2_ f3_; subst f4_; subst f5_)); refine hK.out _ _ (((HB.out.cell (World.block_lt_of_cell? w _ hw174_0)).trans hw174_0)) (fun hHeld => ?_); clear hK K; refine norm_ (a' := ?_) ?_ ?_; rotate_left
       ·show Act.put _ (some 59) _ = _; simp only [Act.put, qA, qB, qC, i64_w]; rfl
       refine one_ (i := 10) (N := some 61) bA79 rfl rfl (one_of HT_.out (by kernel_rfl)) (by decide) (fun K hK => ?_); refine Kd.R_append_rows_step (Kd.int .i64) (w0 := w) w.heap.size (by rfl) (.tmp 59) (.tmp 60) 24 3 (.int .i64 0) 8 rfl Tryd.underlying24 info3 rfl (by decide) (by omega) v176 y175 y168 _ _ _ (fun k_ => some k_ ≠ (.slice Ao52 y168.length co52 : Value).ownBlock) (fun _ => False) rfl rfl ?aO ?aR (fun _ _ h => h) (fun _ h => h.elim) ?aF ?aB ?aS ?aL ?_; (case aR => repeat (first | exact (Kd.R_reads' HO170.out).2.2 | (with_reducible refine Kd.C_alloc ?_ _) | (with_reducible refine Kd.C_drewN ?_ _) | (with_reducible refine Kd.C_drew ?_))); (case aB => exact (zB HB.out)); (case aF => exact (fun k_ hk => Kd.fresh' (Kd.R_lt (zR HO170.out)) k_ hk)); (case aO => exact (zR HO177.out)); (case aS => exact (zS HB.out)); (case aL => have := LMc41.out; omega); intro v179 w51 ho hb hg hat; rw [← Ny178.out] at ho; replace HO170 := Aside0.mk (Kd.R_after (ok := (fun _ => True)) (zR HO170.out) hg hat); replace HB := Aside0.mk (hb); have HO180 := Aside0.mk (ho); clear HO177; clear ho hb hg hat; refine hK.out _ _ (((HB.out.cell (World.block_lt_of_cell? w _ hw174_0)).trans hw174_0)) (fun hHeld => ?_); clear hK K; refine norm_ (a' := ?_) ?_ ?_; rotate_left
       ·show Act.put _ (some 61) _ = _; simp only [Act.put, qA, qB, qC, i64_w]; rfl
       refine zP 11 (some 3) ?_ bA155 rfl rfl HT_ ?_ ?_ ?_ ?_; rotate_left
       ·intro w'; go_simp; (with_reducible rfl)
       rotate_left
       ·simp only [Act.put, qA, qB, qC, i64_w]; rfl
       refine done_ (done_of HT_.out (by kernel_rfl)) ?_
       try go_wp2
       go_roundg k2
       case measure => have := HK1.out; have := HK2.out; omega
       case rel => exact ⟨(y178), (wrap64 (x4_1 + 1)), (by first | rfl | (simp; done) | (simp [*]; done)), H', ⟨by have := HK1.out; have := HK2.out; omega⟩, ⟨zR (Kd.R_mono HO180.out (fun _ hk => trivial))⟩, ⟨zB HB.out⟩⟩
   ·rw [if_neg c4] at H; have c4b0 : decide (x4_1 < (l0.length : Int)) = false := decide_eq_false c4; clear c4; obtain rfl := Option.some.inj H; go_wp2; go_ret
    exact ⟨_, by first | rfl | (simp [*, errW_none, errW_some] <;> rfl), zR HO_3.out, zB HB.out⟩

end Go.Proofs.YthednemidaegkaaDoor.PFnTexts
