-- Written by a program of this session (a turned copy of the kit's print; see NOTES.md).
import Derived.Test.YthednemidaegkaaGreatDoorPFnListsx0
import Derived.Test.YthednemidaegkaaGreatDoorPFnListsx15
namespace Go.Proofs.YthednemidaegkaaGreatDoor.PFnLists
open Go.RowKit Go.Proofs.YthednemidaegkaaGreatDoorW.PrintWords Go.Proofs.YthednemidaegkaaGreatDoorW.PrintLast Go.Proofs.YthednemidaegkaaGreatDoorW.PrintMore
attribute [local go_sem] max2_int min2_int max_two min_two max_three min_three max_four min_four   -- for this text's walks alone
set_option linter.unusedVariables false
set_option linter.unusedSimpArgs false

/-! ### spec_SumsOf: function 21 -/
mutual
def spec_SumsOf.j0 : Nat → List Int → List Int → List Int → Bool → Option (List Int)
 | 0, _, _, _, _ => none
 | k + 1, x0, x1, x5, x16 => if x16 = true then (some x5) else (spec_SumsOf.l0 k x0 x1 x5 0)
def spec_SumsOf.l0 : Nat → List Int → List Int → List Int → Int → Option (List Int)
 | 0, _, _, _, _ => none
 | k + 1, x0, x1, x5, x6 => if x6 < (x0.length : Int) then (spec_SumsOf.l1 k x0 x1 x5 x6 0) else ((spec_SortList.f k x5).bind fun t589 => (some t589))
def spec_SumsOf.l1 : Nat → List Int → List Int → List Int → Int → Int → Option (List Int)
 | 0, _, _, _, _, _ => none
 | k + 1, x0, x1, x5, x6, x7 => if x7 < (x1.length : Int) then (if 0 ≤ x6 then (if x6 < (x0.length : Int) then (if 0 ≤ x7 then (if x5.length < 17592186044416 then (spec_SumsOf.l1 k x0 x1 (x5 ++ [wrap64 ((rd x0 x6) + (rd x1 x7))]) x6 (wrap64 (x7 + 1))) else (none)) else (none)) else (none)) else (none)) else (spec_SumsOf.l0 k x0 x1 x5 (wrap64 (x6 + 1)))
end
def spec_SumsOf.f (k : Nat) (l0 : List Int) (l1 : List Int) : Option (List Int) := (some (([] : List Int) : List Int)).bind fun y584 => ((spec_l2All.f k l0).bind fun t587 => (if t587 = true then ((spec_l2All.f k l1).bind fun t588 => (spec_SumsOf.j0 k l0 l1 y584 (!t588))) else (spec_SumsOf.j0 k l0 l1 y584 true)))
def spec_SumsOf.T10 : Bool × List (List Nat × List Nat) := (true, [([], []), ([], []), ([], []), ([1, 2], [1, 2]), ([3], [3]), ([], []), ([], []), ([5, 6], [5, 6]), ([7], [7]), ([4, 8], [4, 8]), ([9], [9]), ([0, 10], [0, 10]), ([11, 11, 0, 1, 2, 3, 4, 5, 6, 7, 8, 9, 10, 11], [0, 11])])
def spec_SumsOf.B10 : List Nat := [0, 0, 0, 6, 14, 0, 0, 96, 224, 510, 1022, 2047, 4095]
theorem spec_SumsOf.tab10 : rtab .any (opsOf Tryz.f21 10) = spec_SumsOf.T10 := by kernel_rfl
theorem spec_SumsOf.bits10 : waitsOk spec_SumsOf.T10.2 spec_SumsOf.B10 = true := by kernel_rfl
set_option maxHeartbeats 8000000 in
set_option maxRecDepth 100000 in
theorem spec_SumsOf.calls (k : Nat) (A0 : Option Addr) (c0 : Nat) (l0 : List Int) (A1 : Option Addr) (c1 : Nat) (l1 : List Int) (r : List Int) (w : World) (hr0 : Kd.C (Kd.int .i64) w A0 l0.length l0) (hc0 : l0.length ≤ c0) (hr1 : Kd.C (Kd.int .i64) w A1 l1.length l1) (hc1 : l1.length ≤ c1) (h : spec_SumsOf.f k l0 l1 = some r) :
  Calls Tryz.prog 21 #[.slice A0 l0.length c0, .slice A1 l1.length c1] w fun e w' => ∃ v0_ : Value, e = .returned (v0_) ∧ Kd.R (Kd.int .i64) 3 w' w.heap.size (fun _ => True) v0_ r ∧ Below w.heap.size w w' := by
 have HR0 := Aside0.mk hr0; have HC0 := Aside0.mk hc0; clear hr0 hc0; have HR1 := Aside0.mk hr1; have HC1 := Aside0.mk hc1; clear hr1 hc1; have HB := Aside0.mk (Below.refl w.heap.size w); have H : ((some (([] : List Int) : List Int)).bind fun y584 => ((spec_l2All.f k l0).bind fun t587 => (if t587 = true then ((spec_l2All.f k l1).bind fun t588 => (spec_SumsOf.j0 k l0 l1 y584 (!t588))) else (spec_SumsOf.j0 k l0 l1 y584 true)))) = some r := h; clear h; obtain ⟨y584, hy584⟩ : ∃ y_ : List Int, y_ = (([] : List Int)) := ⟨_, rfl⟩; replace H : ((spec_l2All.f k l0).bind fun t587 => (if t587 = true then ((spec_l2All.f k l1).bind fun t588 => (spec_SumsOf.j0 k l0 l1 y584 (!t588))) else (spec_SumsOf.j0 k l0 l1 y584 true))) = some r := by first | (rw [hy584]; with_reducible exact H) | (have H2_ := (Option.bind_some _ _).symm.trans H; rw [hy584]; with_reducible exact H2_) | (have H2_ := (Option.bind_some _ _).symm.trans H; with_reducible exact H2_) | with_reducible exact H | (rw [hy584]; exact H) | exact H
 have Ny584 := Aside0.mk hy584; clear hy584; have HC3 := Aside0.mk H; clear H; go_enter Tryz.func21, Tryz.ntmps21; go_upto_region 2 with (first | ((with_reducible refine gate_dst (N := 8) rfl ?_); refine Kd.R_lit (Kd.int .i64) _ 3 ?hg (N := 8) ?hd (xs := ([] : List Int)) (inner := []) (ok := fun _ => True) (okp := fun _ => True) ?hr ?hp (fun _ hk => hk) trivial (Below.refl _ _) (Nat.le_refl _) (by simp) ?_; (case hd => rfl); (case hg => rfl); (case hr => first | (go_simp; done) | (go_simp; rfl)); (case hp => exact (Reps.none _ _)); intro v585 w4 ho5 hb hg_ hnew_; clear hg_ hnew_; (first | rw [← Ny584.out] at ho5 | (simp only [Int.reduceToNat] at ho5; rw [← Ny584.out] at ho5)); have HO586 := Aside0.mk (Kd.R_lower ho5 (zS HB.out)); replace HB := Aside0.mk (below_step (zB HB.out) hb); clear hb ho5))
 (try simp only [Act.put, List.setIfInBounds_toArray, List.set_cons_zero, List.set_cons_succ]); go_cut [16] (fun v16 wc => ∃ (kq : Nat) (x16_2 : Bool), v16 = .bool x16_2 ∧ Aside0 (spec_SumsOf.j0 kq l0 l1 y584 x16_2 = some r) ∧ Aside0 (kq ≤ k) ∧ Aside0 (Kd.R (Kd.int .i64) 3 wc w.heap.size (fun _ => True) v585 y584) ∧ Aside0 (Below w.heap.size w wc))
 case first =>
  have H := HC3.out; clear HC3; obtain ⟨t587, A6, H⟩ := zb H
  by_cases c7 : t587 = true
  ·subst c7; rw [zT] at H; obtain ⟨t588, A8, H⟩ := zb H; have H' := Aside0.mk H; clear H; go_wp2_with (first | ((with_reducible refine gate_callee (f := 48) rfl ?_); refine goesL_ (some 10) rfl rfl Tryz.func48 (by kernel_rfl) rfl #[.slice A0 l0.length c0] rfl (by (try simp only [za, zc, zn]); first | done | rfl) ?_; (with_reducible refine (spec_l2All.calls k _ _ l0 true _ ?side1 ?side2 A6.out).mono ?_); (case side1 => exact zC (Kd.C_below HR0.out HB.out)); (case side2 => exact HC0.out); rintro e w' ⟨rfl, ⟨nd, rfl⟩⟩; refine ⟨_, rfl, ?_⟩) | (go_at_call 48; (with_reducible refine (spec_l2All.calls k _ _ l1 t588 _ ?side1 ?side2 A8.out).mono ?_); (case side1 => exact Kd.C_below HR1.out (zB HB.out)); (case side2 => exact HC1.out); rintro e w' ⟨rfl, ⟨nd, rfl⟩⟩))
   go_meet
   case rel => exact ⟨_, (!t588), (by first | rfl | (simp; done) | (simp [*]; done)), H', ⟨by first | omega | exact Nat.le_refl _⟩, ⟨zR HO586.out⟩, ⟨zB HB.out⟩⟩
  ·replace c7 := Bool.eq_false_iff.mpr c7; subst c7; rw [zF] at H; have H' := Aside0.mk H; clear H; go_wp2_with (first | ((with_reducible refine gate_callee (f := 48) rfl ?_); refine goesL_ (some 10) rfl rfl Tryz.func48 (by kernel_rfl) rfl #[.slice A0 l0.length c0] rfl (by (try simp only [za, zc, zn]); first | done | rfl) ?_; (with_reducible refine (spec_l2All.calls k _ _ l0 false _ ?side1 ?side2 A6.out).mono ?_); (case side1 => exact zC (Kd.C_below HR0.out HB.out)); (case side2 => exact HC0.out); rintro e w' ⟨rfl, ⟨nd, rfl⟩⟩; refine ⟨_, rfl, ?_⟩))
   go_meet
   case rel => exact ⟨_, (true), (by first | rfl | (simp; done) | (simp [*]; done)), H', ⟨by first | omega | exact Nat.le_refl _⟩, ⟨zR HO586.out⟩, ⟨zB HB.out⟩⟩
 case rest =>
  clear HC3; obtain ⟨kq, x16_2, rfl, HA, HJ2, HO_5, HB⟩ := hcut
  cases kq with
  | zero => exact absurd HA.out (by simp [spec_SumsOf.j0])
  | succ kj2 =>
   have H := HA.out; clear HA; simp only [spec_SumsOf.j0] at H
   by_cases c9 : x16_2 = true
   ·subst c9; rw [zT] at H; obtain rfl := Option.some.inj H; go_wp2; go_ret
    exact ⟨_, by first | rfl | (simp [*, errW_none, errW_some] <;> rfl), zR HO_5.out, zB HB.out⟩
   ·replace c9 := Bool.eq_false_iff.mpr c9; subst c9; rw [zF] at H; have H' := Aside0.mk H; clear H; go_wp2; go_loopg [5, 6] kj2 (fun kq v5 v6 w' => ∃ (x5_2 : List Int) (x6_2 : Int), v6 = .int .i64 x6_2 ∧ Aside0 (spec_SumsOf.l0 kq l0 l1 x5_2 x6_2 = some r) ∧ Aside0 (kq ≤ kj2) ∧ Aside0 (Kd.R (Kd.int .i64) 3 w' w.heap.size (fun _ => True) v5 x5_2) ∧ Aside0 (Below w.heap.size w w'))
    case atStart => exact ⟨(y584), (0), (by first | rfl | (simp; done) | (simp [*]; done)), H', ⟨Nat.le_refl _⟩, ⟨zR HO_5.out⟩, ⟨zB HB.out⟩⟩
    case round =>
     clear H'
     try clear c9
     obtain ⟨x5_2, x6_2, rfl, HA, HK2, HO_5, HB⟩ := hrel
     cases gk with
     | zero => exact absurd HA.out (by simp [spec_SumsOf.l0])
     | succ k2 =>
      have H := HA.out; clear HA; simp only [spec_SumsOf.l0] at H
      by_cases c10 : x6_2 < (l0.length : Int)
      ·rw [if_pos c10] at H; have c10b0 : decide (x6_2 < (l0.length : Int)) = true := decide_eq_true c10; clear c10; have H' := Aside0.mk H; clear H; go_wp2; go_loopg [5, 7] k2 (fun kq v5 v7 w' => ∃ (x5_3 : List Int) (x7_3 : Int), v7 = .int .i64 x7_3 ∧ Aside0 (spec_SumsOf.l1 kq l0 l1 x5_3 x6_2 x7_3 = some r) ∧ Aside0 (kq ≤ k2) ∧ Aside0 (Kd.R (Kd.int .i64) 3 w' w.heap.size (fun _ => True) v5 x5_3) ∧ Aside0 (Below w.heap.size w w'))
       case atStart => exact ⟨(x5_2), (0), (by first | rfl | (simp; done) | (simp [*]; done)), H', ⟨Nat.le_refl _⟩, ⟨zR HO_5.out⟩, ⟨zB HB.out⟩⟩
       case round =>
        clear H'
        try clear c10b0
        obtain ⟨x5_3, x7_3, rfl, HA, HK3, HO_5, HB⟩ := hrel
        cases gk with
        | zero => exact absurd HA.out (by simp [spec_SumsOf.l1])
        | succ k3 =>
         have H := HA.out; clear HA; simp only [spec_SumsOf.l1] at H
         by_cases c11 : x7_3 < (l1.length : Int)
         ·rw [if_pos c11] at H; have c11b0 : decide (x7_3 < (l1.length : Int)) = true := decide_eq_true c11; clear c11; obtain ⟨c12, H⟩ := zi H; have c12b0 : decide (0 ≤ x6_2) = true := decide_eq_true c12; clear c12; obtain ⟨c13, H⟩ := zi H; have c13b0 : decide (x6_2 < (l0.length : Int)) = true := decide_eq_true c13; clear c13; obtain ⟨c14, H⟩ := zi H; have c14b0 : decide (0 ≤ x7_3) = true := decide_eq_true c14; clear c14; obtain ⟨c15, H⟩ := zi H; have LMc15 := Aside0.mk c15; clear c15; obtain ⟨y594, Ny594⟩ : ∃ y_ : List Int, Aside0 (y_ = (x5_3 ++ [wrap64 ((rd l0 x6_2) + (rd l1 x7_3))])) := ⟨_, ⟨rfl⟩⟩; (try rw [Option.bind_some] at H); (try rw [← Ny594.out] at H); have H' := Aside0.mk H; clear H
          try go_wp2
          replace HO_5 := Aside0.mk (Kd.R_drew HO_5.out); replace HB := Aside0.mk (below_drew1 HB.out); have p592 : 0 ≤ (x6_2 : Int) := of_decide_eq_true (by assumption); have q592 : x6_2 < (l0.length : Int) := of_decide_eq_true (by assumption); obtain ⟨ad592, e592, hx592_0⟩ := Kd.at_int HR0.out x6_2 p592 q592; have hw592_0 := hx592_0
          cases e592; (try replace hx592_0 := (HB.out.cell (World.block_lt_of_cell? w _ hx592_0)).trans hx592_0); replace p592 := eq_true p592; replace q592 := eq_true q592; have p593 : 0 ≤ (x7_3 : Int) := of_decide_eq_true (by assumption); have q593 : x7_3 < (l1.length : Int) := of_decide_eq_true (by assumption); obtain ⟨ad593, e593, hx593_0⟩ := Kd.at_int HR1.out x7_3 p593 q593; have hw593_0 := hx593_0
          cases e593; (try replace hx593_0 := (HB.out.cell (World.block_lt_of_cell? w _ hx593_0)).trans hx593_0); replace p593 := eq_true p593; replace q593 := eq_true q593; refine start_ (n := 13) (S := fun w' => w'.cell? (ad592.add (x6_2).toNat) = some (.int .i64 (rd l0 x6_2)) ∧ w'.cell? (ad593.add (x7_3).toNat) = some (.int .i64 (rd l1 x7_3))) (ds := []) #[false, false, false, false, false, false, false, false, false, false, false, false, false] (by kernel_rfl) rfl rfl ⟨((HB.out.cell (World.block_lt_of_cell? w _ hw592_0)).trans hw592_0), ((HB.out.cell (World.block_lt_of_cell? w _ hw593_0)).trans hw593_0)⟩ (fun hHeld => ?_); refine with_tabW spec_SumsOf.tab10 spec_SumsOf.bits10 (fun HT_ HW_ => ?_); generalize wr.drew = w16 at HO_5 HB hx592_0 hx593_0 hHeld ⊢; refine zp 0 (some 30) ?_ #[true, false, false, false, false, false, false, false, false, false, false, false, false] rfl rfl HT_ (by kernel_rfl) (fun _ _ _ h => h) (by rfl) ?_ ?_ ?_ ?_; rotate_left
          ·intro w'; go_simp; (with_reducible rfl)
          rotate_left
          ·simp only [Act.put, qA, qB, qC, i64_w]; rfl
          refine zp 1 (some 31) ?_ #[true, true, false, false, false, false, false, false, false, false, false, false, false] rfl rfl HT_ (by kernel_rfl) (fun _ _ _ h => h) (by rfl) ?_ ?_ ?_ ?_; rotate_left
          ·intro w'; go_simp; (with_reducible rfl)
          rotate_left
          ·simp only [Act.put, qA, qB, qC, i64_w]; rfl
          refine zp 2 (some 32) ?_ #[true, true, true, false, false, false, false, false, false, false, false, false, false] rfl rfl HT_ (by kernel_rfl) (fun _ _ _ h => h) (by rfl) ?_ ?_ ?_ ?_; rotate_left
          ·intro w'; go_simp; (with_reducible rfl)
          rotate_left
          ·simp only [Act.put, qA, qB, qC, i64_w]; rfl
          refine zp 3 (some 33) ?_ #[true, true, true, true, false, false, false, false, false, false, false, false, false] rfl rfl HT_ (by kernel_rfl) (fun _ _ _ h => h) (by rfl) ?_ ?_ ?_ ?_; rotate_left
          ·intro w'; go_simp; (with_reducible rfl)
          rotate_left
          ·simp only [Act.put, qA, qB, qC, i64_w]; rfl
          refine zp 5 (some 35) ?_ #[true, true, true, true, false, true, false, false, false, false, false, false, false] rfl rfl HT_ (by kernel_rfl) (fun _ _ _ h => h) (by rfl) ?_ ?_ ?_ ?_; rotate_left
          ·intro w'; go_simp; (with_reducible rfl)
          rotate_left
          ·simp only [Act.put, qA, qB, qC, i64_w]; rfl
          refine zp 6 (some 36) ?_ #[true, true, true, true, false, true, true, false, false, false, false, false, false] rfl rfl HT_ (by kernel_rfl) (fun _ _ _ h => h) (by rfl) ?_ ?_ ?_ ?_; rotate_left
          ·intro w'; go_simp; (with_reducible rfl)
          rotate_left
          ·simp only [Act.put, qA, qB, qC, i64_w]; rfl
          refine zp 7 (some 37) ?_ #[true, true, true, true, false, true, true, true, false, false, false, false, false] rfl rfl HT_ (by kernel_rfl) (fun _ _ _ h => h) (by rfl) ?_ ?_ ?_ ?_; rotate_left
          ·intro w'; go_simp; (with_reducible rfl)
          rotate_left
          ·simp only [Act.put, qA, qB, qC, i64_w]; rfl
          refine zt 4 (some 34) ?_ #[true, true, true, true, true, true, true, true, false, false, false, false, false] rfl rfl HT_ HW_ (by kernel_rfl) (fun _ _ _ h => h) (by rfl) ?_ hHeld ?_ ?_ ?_; rotate_left
          ·rintro w' ⟨s0, s1⟩; go_simp; (with_reducible rfl)
          rotate_left
          ·simp only [Act.put, qA, qB, qC, i64_w]; rfl
          refine zt 8 (some 38) ?_ #[true, true, true, true, true, true, true, true, true, false, false, false, false] rfl rfl HT_ HW_ (by kernel_rfl) (fun _ _ _ h => h) (by rfl) ?_ hHeld ?_ ?_ ?_; rotate_left
          ·rintro w' ⟨s0, s1⟩; go_simp; (with_reducible rfl)
          rotate_left
          ·simp only [Act.put, qA, qB, qC, i64_w]; rfl
          refine zp 9 (some 39) ?_ #[true, true, true, true, true, true, true, true, true, true, false, false, false] rfl rfl HT_ (by kernel_rfl) (fun _ _ _ h => h) (by rfl) ?_ ?_ ?_ ?_; rotate_left
          ·intro w'; go_simp; (with_reducible rfl)
          rotate_left
          ·simp only [Act.put, qA, qB, qC, i64_w]; rfl
          refine one_ (i := 10) (N := some 40) #[true, true, true, true, true, true, true, true, true, true, true, false, false] rfl rfl (one_of HT_.out (by kernel_rfl)) (by decide) (fun K hK => ?_); refine value_ (w1 := ?_) (v := ?_) (by rfl) rfl ?_ ?_; rotate_left 2
          ·go_simp; constructor
           ·rfl
           ·rfl
          refine hK.out _ _ ⟨(World.cell?_alloc_lt _ _ _ (World.block_lt_of_cell? _ _ (((HB.out.cell (World.block_lt_of_cell? w _ hw592_0)).trans hw592_0)))).trans (((HB.out.cell (World.block_lt_of_cell? w _ hw592_0)).trans hw592_0)), (World.cell?_alloc_lt _ _ _ (World.block_lt_of_cell? _ _ (((HB.out.cell (World.block_lt_of_cell? w _ hw593_0)).trans hw593_0)))).trans (((HB.out.cell (World.block_lt_of_cell? w _ hw593_0)).trans hw593_0))⟩ (fun hHeld => ?_); clear hK K; refine norm_ (a' := ?_) ?_ ?_; rotate_left
          ·show Act.put _ (some 40) _ = _; simp only [Act.put, qA, qB, qC, i64_w]; rfl
          refine one_ (i := 11) (N := some 41) #[true, true, true, true, true, true, true, true, true, true, true, true, false] rfl rfl (one_of HT_.out (by kernel_rfl)) (by decide) (fun K hK => ?_); refine Kd.R_append_step (Kd.int .i64) (w0 := w) w.heap.size (by rfl) (.tmp 30) (.tmp 40) 27 3 (.int .i64 0) 8 rfl Tryz.underlying27 info3 rfl (by decide) (by omega) u5 x5_3 (wrap64 ((rd l0 x6_2) + (rd l1 x7_3))) [.int .i64 (wrap64 ((rd l0 x6_2) + (rd l1 x7_3)))] (fun _ => True) (fun _ => False) rfl rfl ?aP (fun _ hk => hk.elim) ?aF ?aO ?aB ?aS ?aL ?_; (case aP => exact rfl); (case aB => exact (zB HB.out)); (case aF => exact (fun _ _ => trivial)); (case aO => exact (zR HO_5.out)); (case aS => exact (zS HB.out)); (case aL => have := LMc15.out; omega); intro v595 w17 ho hb hg hat; rw [← Ny594.out] at ho; replace HB := Aside0.mk (hb); have HO596 := Aside0.mk (ho); clear HO_5; clear ho hb hg hat; refine hK.out _ _ ⟨((HB.out.cell (World.block_lt_of_cell? w _ hw592_0)).trans hw592_0), ((HB.out.cell (World.block_lt_of_cell? w _ hw593_0)).trans hw593_0)⟩ (fun hHeld => ?_); clear hK K; refine norm_ (a' := ?_) ?_ ?_; rotate_left
          ·show Act.put _ (some 41) _ = _; simp only [Act.put, qA, qB, qC, i64_w]; rfl
          refine zp 12 (some 5) ?_ #[true, true, true, true, true, true, true, true, true, true, true, true, true] rfl rfl HT_ (by kernel_rfl) (fun _ _ _ h => h) (by rfl) ?_ ?_ ?_ ?_; rotate_left
          ·intro w'; go_simp; (with_reducible rfl)
          rotate_left
          ·simp only [Act.put, qA, qB, qC, i64_w]; rfl
          refine done_ (done_of HT_.out (by kernel_rfl)) ?_
          try go_wp2
          go_roundg k3
          case measure => have := HJ2.out; have := HK2.out; have := HK3.out; omega
          case rel => exact ⟨(y594), (wrap64 (x7_3 + 1)), (by first | rfl | (simp; done) | (simp [*]; done)), H', ⟨by have := HJ2.out; have := HK2.out; have := HK3.out; omega⟩, ⟨zR HO596.out⟩, ⟨zB HB.out⟩⟩
         ·rw [if_neg c11] at H; have c11b0 : decide (x7_3 < (l1.length : Int)) = false := decide_eq_false c11; clear c11; have H' := Aside0.mk H; clear H; go_wp2
          go_roundg k3
          case measure => have := HJ2.out; have := HK2.out; have := HK3.out; omega
          case rel => exact ⟨(x5_3), (wrap64 (x6_2 + 1)), (by first | rfl | (simp; done) | (simp [*]; done)), H', ⟨by have := HJ2.out; have := HK2.out; have := HK3.out; omega⟩, ⟨zR HO_5.out⟩, ⟨zB HB.out⟩⟩
      ·rw [if_neg c10] at H; have c10b0 : decide (x6_2 < (l0.length : Int)) = false := decide_eq_false c10; clear c10; obtain ⟨t589, A18, H⟩ := zb H; obtain rfl := Option.some.inj H; obtain ⟨Ao19, co19, eo19⟩ := Kd.R_slice HO_5.out; subst eo19; go_wp2_with (first | ((with_reducible refine gate_callee (f := 18) rfl ?_); refine goesL_ (some 43) rfl rfl Tryz.func18 (by kernel_rfl) rfl #[.slice Ao19 x5_2.length co19] rfl (by (try simp only [za, zc, zn]); first | done | rfl) ?_; (with_reducible refine (spec_SortList.calls k2 _ _ x5_2 t589 _ ?side1 ?side2 A18.out).mono ?_); (case side1 => repeat (first | exact (Kd.R_reads' HO_5.out).2.2 | (with_reducible refine Kd.C_alloc ?_ _) | (with_reducible refine Kd.C_drewN ?_ _) | (with_reducible refine Kd.C_drew ?_))); (case side2 => exact (Kd.R_reads' HO_5.out).2.1); rintro e w20 ⟨v590, rfl, ho0, hb⟩; refine ⟨_, rfl, ?_⟩; have HO591 := Aside0.mk (Kd.R_lower (Kd.R_new' ho0 (Kd.R_lt (zR HO_5.out))) (zS HB.out)); replace HO_5 := Aside0.mk (Kd.R_elder' (zR HO_5.out) (Kd.R_base ho0) hb); replace HB := Aside0.mk (below_step (zB HB.out) hb); (try clear hb); (try clear hb2); (try clear hk); (try clear hi); (try clear ho0))); go_ret
       exact ⟨_, by first | rfl | (simp [*, errW_none, errW_some] <;> rfl), zR (Kd.R_mono HO591.out (fun _ hk => trivial)), zB HB.out⟩

/-! ### slices_Index_int_int: function 62 -/
def slices_Index_int_int.l0 : Nat → List Int → Int → Int → Int → Option (Int)
 | 0, _, _, _, _ => none
 | k + 1, x0, x1, x7, x8 => if x8 < x7 then (if 0 ≤ x8 then (if x8 < (x0.length : Int) then (if x1 = (rd x0 x8) then (some x8) else (slices_Index_int_int.l0 k x0 x1 x7 (wrap64 (x8 + 1)))) else (none)) else (none)) else (some (-1))
def slices_Index_int_int.f (k : Nat) (l0 : List Int) (a1 : Int) : Option (Int) := slices_Index_int_int.l0 k l0 a1 (l0.length : Int) 0
set_option maxHeartbeats 8000000 in
set_option maxRecDepth 100000 in
theorem slices_Index_int_int.calls (k : Nat) (A0 : Option Addr) (c0 : Nat) (l0 : List Int) (a1 : Int) (r : Int) (w : World) (hr0 : Kd.C (Kd.int .i64) w A0 l0.length l0) (hc0 : l0.length ≤ c0) (h : slices_Index_int_int.f k l0 a1 = some r) :
  Calls Tryz.prog 62 #[.slice A0 l0.length c0, .int .i64 a1] w fun e w' => e = .returned (.int .i64 r) ∧ Drawn0 w w' := by
 have HR0 := Aside0.mk hr0; have HC0 := Aside0.mk hc0; clear hr0 hc0; have H : (slices_Index_int_int.l0 k l0 a1 (l0.length : Int) 0) = some r := h; clear h; have H' := Aside0.mk H; clear H; go_enter Tryz.func62, Tryz.ntmps62; go_wp2; go_loopg [8] k (fun kq v8 w' => ∃ (x8_1 : Int), v8 = .int .i64 x8_1 ∧ Aside0 (slices_Index_int_int.l0 kq l0 a1 (l0.length : Int) x8_1 = some r) ∧ Aside0 (kq ≤ k) ∧ Drawn0 w w')
 case atStart => exact ⟨(0), (by first | rfl | (simp; done) | (simp [*]; done)), H', ⟨Nat.le_refl _⟩, by repeat (first | exact Drawn0.refl _ | apply Drawn0.step)⟩
 case round =>
  clear H'; obtain ⟨x8_1, rfl, HA, HK1, ⟨m1, rfl⟩⟩ := hrel
  cases gk with
  | zero => exact absurd HA.out (by simp [slices_Index_int_int.l0])
  | succ k1 =>
   have H := HA.out; clear HA; simp only [slices_Index_int_int.l0] at H
   by_cases c3 : x8_1 < (l0.length : Int)
   ·rw [if_pos c3] at H; have c3b0 : decide (x8_1 < (l0.length : Int)) = true := decide_eq_true c3; clear c3; obtain ⟨c4, H⟩ := zi H; have c4b0 : decide (0 ≤ x8_1) = true := decide_eq_true c4; clear c4; obtain ⟨c5, H⟩ := zi H; have c5b0 : decide (x8_1 < (l0.length : Int)) = true := decide_eq_true c5; clear c5
    by_cases c6 : a1 = (rd l0 x8_1)
    ·rw [if_pos c6] at H; have c6b0 : (a1 == (rd l0 x8_1)) = true := beq_iff_eq.mpr c6; have c6b1 : (a1 != (rd l0 x8_1)) = false := bne_eq_false_iff_eq.mpr c6; clear c6; obtain rfl := Option.some.inj H; have p597 : 0 ≤ (x8_1 : Int) := of_decide_eq_true (by assumption); have q597 : x8_1 < (l0.length : Int) := of_decide_eq_true (by assumption); obtain ⟨ad597, e597, hx597_0⟩ := Kd.at_int HR0.out x8_1 p597 q597
     cases e597; replace p597 := eq_true p597; replace q597 := eq_true q597; go_wp2; go_ret
     exact ⟨by first | rfl | (simp; done) | (simp [*]; done), by repeat (first | exact Drawn0.refl _ | apply Drawn0.step)⟩
    ·rw [if_neg c6] at H; have c6b0 : (a1 == (rd l0 x8_1)) = false := beq_eq_false_iff_ne.mpr c6; have c6b1 : (a1 != (rd l0 x8_1)) = true := bne_iff_ne.mpr c6; have H' := Aside0.mk H; clear H; have p597 : 0 ≤ (x8_1 : Int) := of_decide_eq_true (by assumption); have q597 : x8_1 < (l0.length : Int) := of_decide_eq_true (by assumption); obtain ⟨ad597, e597, hx597_0⟩ := Kd.at_int HR0.out x8_1 p597 q597
     cases e597; replace p597 := eq_true p597; replace q597 := eq_true q597; go_wp2
     go_roundg k1
     case measure => have := HK1.out; omega
     case rel => exact ⟨(wrap64 (x8_1 + 1)), (by first | rfl | (simp; done) | (simp [*]; done)), H', ⟨by have := HK1.out; omega⟩, by repeat (first | exact Drawn0.refl _ | apply Drawn0.step)⟩
   ·rw [if_neg c3] at H; have c3b0 : decide (x8_1 < (l0.length : Int)) = false := decide_eq_false c3; clear c3; obtain rfl := Option.some.inj H; go_wp2; go_ret
    exact ⟨by first | rfl | (simp; done) | (simp [*]; done), by repeat (first | exact Drawn0.refl _ | apply Drawn0.step)⟩

/-! ### slices_Contains_int_int: function 49 -/
def slices_Contains_int_int.f (k : Nat) (l0 : List Int) (a1 : Int) : Option (Bool) := (slices_Index_int_int.f k l0 a1).bind fun t598 => (some (decide (t598 ≥ 0)))
set_option maxHeartbeats 8000000 in
set_option maxRecDepth 100000 in
theorem slices_Contains_int_int.calls (k : Nat) (A0 : Option Addr) (c0 : Nat) (l0 : List Int) (a1 : Int) (r : Bool) (w : World) (hr0 : Kd.C (Kd.int .i64) w A0 l0.length l0) (hc0 : l0.length ≤ c0) (h : slices_Contains_int_int.f k l0 a1 = some r) :
  Calls Tryz.prog 49 #[.slice A0 l0.length c0, .int .i64 a1] w fun e w' => e = .returned (.bool r) ∧ Drawn0 w w' := by
 have HR0 := Aside0.mk hr0; have HC0 := Aside0.mk hc0; clear hr0 hc0; have H : ((slices_Index_int_int.f k l0 a1).bind fun t598 => (some (decide (t598 ≥ 0)))) = some r := h; clear h; obtain ⟨t598, A3, H⟩ := zb H; obtain rfl := Option.some.inj H; go_enter Tryz.func49, Tryz.ntmps49; go_wp2_with (first | ((with_reducible refine gate_callee (f := 62) rfl ?_); refine goesL_ (some 7) rfl rfl Tryz.func62 (by kernel_rfl) rfl #[.slice A0 l0.length c0, .int .i64 a1] rfl (by (try simp only [za, zc, zn]); first | done | rfl) ?_; (with_reducible refine (slices_Index_int_int.calls k _ _ l0 a1 t598 _ ?side1 ?side2 A3.out).mono ?_); (case side1 => repeat (first | exact HR0.out | (with_reducible refine Kd.C_alloc ?_ _) | (with_reducible refine Kd.C_drewN ?_ _) | (with_reducible refine Kd.C_drew ?_))); (case side2 => exact HC0.out); rintro e w' ⟨rfl, ⟨nd, rfl⟩⟩; refine ⟨_, rfl, ?_⟩)); go_ret
 exact ⟨by first | rfl | (simp; done) | (simp [*]; done), by repeat (first | exact Drawn0.refl _ | apply Drawn0.step)⟩

/-! ### impl_SharedOf: function 22 -/
def impl_SharedOf.l0 : Nat → List Int → List Int → List Int → Int → Int → Option (List Int)
 | 0, _, _, _, _, _ => none
 | k + 1, x1, x5, x10, x11, x12 => if x12 < x11 then (if 0 ≤ x12 then (if x12 < (x10.length : Int) then ((slices_Contains_int_int.f k x1 (rd x10 x12)).bind fun t606 => (if t606 = true then (if x5.length < 17592186044416 then (impl_SharedOf.l0 k x1 (x5 ++ [rd x10 x12]) x10 x11 (wrap64 (x12 + 1))) else (none)) else (impl_SharedOf.l0 k x1 x5 x10 x11 (wrap64 (x12 + 1))))) else (none)) else (none)) else (some x5)
def impl_SharedOf.f (k : Nat) (l0 : List Int) (l1 : List Int) : Option (List Int) := (impl_SortList.f l0).bind fun t602 => (impl_SharedOf.l0 k l1 (([] : List Int)) t602 (t602.length : Int) 0)
set_option maxHeartbeats 8000000 in
set_option maxRecDepth 100000 in
theorem impl_SharedOf.calls (k : Nat) (A0 : Option Addr) (c0 : Nat) (l0 : List Int) (A1 : Option Addr) (c1 : Nat) (l1 : List Int) (r : List Int) (w : World) (hr0 : Kd.C (Kd.int .i64) w A0 l0.length l0) (hc0 : l0.length ≤ c0) (hr1 : Kd.C (Kd.int .i64) w A1 l1.length l1) (hc1 : l1.length ≤ c1) (h : impl_SharedOf.f k l0 l1 = some r) :
  Calls Tryz.prog 22 #[.slice A0 l0.length c0, .slice A1 l1.length c1] w fun e w' => ∃ v0_ : Value, e = .returned (v0_) ∧ Kd.R (Kd.int .i64) 3 w' w.heap.size (fun _ => True) v0_ r ∧ Below w.heap.size w w' := by
 have HR0 := Aside0.mk hr0; have HC0 := Aside0.mk hc0; clear hr0 hc0; have HR1 := Aside0.mk hr1; have HC1 := Aside0.mk hc1; clear hr1 hc1; have HB := Aside0.mk (Below.refl w.heap.size w); have H : ((impl_SortList.f l0).bind fun t602 => (impl_SharedOf.l0 k l1 (([] : List Int)) t602 (t602.length : Int) 0)) = some r := h; clear h; obtain ⟨y599, hy599⟩ : ∃ y_ : List Int, y_ = (([] : List Int)) := ⟨_, rfl⟩; replace H : ((impl_SortList.f l0).bind fun t602 => (impl_SharedOf.l0 k l1 y599 t602 (t602.length : Int) 0)) = some r := by first | (rw [hy599]; with_reducible exact H) | (have H2_ := (Option.bind_some _ _).symm.trans H; rw [hy599]; with_reducible exact H2_) | (have H2_ := (Option.bind_some _ _).symm.trans H; with_reducible exact H2_) | with_reducible exact H | (rw [hy599]; exact H) | exact H
 have Ny599 := Aside0.mk hy599; clear hy599; obtain ⟨t602, A3, H⟩ := zb H; have H' := Aside0.mk H; clear H; go_enter Tryz.func22, Tryz.ntmps22; go_wp2_with (first | ((with_reducible refine gate_dst (N := 8) rfl ?_); refine Kd.R_lit (Kd.int .i64) _ 3 ?hg (N := 8) ?hd (xs := ([] : List Int)) (inner := []) (ok := fun _ => True) (okp := fun _ => True) ?hr ?hp (fun _ hk => hk) trivial (Below.refl _ _) (Nat.le_refl _) (by simp) ?_; (case hd => rfl); (case hg => rfl); (case hr => first | (go_simp; done) | (go_simp; rfl)); (case hp => exact (Reps.none _ _)); intro v600 w4 ho5 hb hg_ hnew_; clear hg_ hnew_; (first | rw [← Ny599.out] at ho5 | (simp only [Int.reduceToNat] at ho5; rw [← Ny599.out] at ho5)); have HO601 := Aside0.mk (Kd.R_lower ho5 (zS HB.out)); replace HB := Aside0.mk (below_step (zB HB.out) hb); clear hb ho5) | ((with_reducible refine gate_callee (f := 12) rfl ?_); refine goesL_ (some 10) rfl rfl Tryz.func12 (by kernel_rfl) rfl #[.slice A0 l0.length c0] rfl (by (try simp only [za, zc, zn]); first | done | rfl) ?_; (with_reducible refine (impl_SortList.calls _ _ l0 t602 _ ?side1 ?side2 A3.out).mono ?_); (case side1 => exact zC (Kd.C_below HR0.out HB.out)); (case side2 => exact HC0.out); rintro e w6 ⟨v603, rfl, ho0, hb⟩; refine ⟨_, rfl, ?_⟩; have HO604 := Aside0.mk (Kd.R_lower (Kd.R_new' ho0 (Kd.R_lt (zR HO601.out))) (zS HB.out)); replace HO601 := Aside0.mk (Kd.R_elder' (zR HO601.out) (Kd.R_base ho0) hb); replace HB := Aside0.mk (below_step (zB HB.out) hb); (try clear hb); (try clear hb2); (try clear hk); (try clear hi); (try clear ho0); obtain ⟨Ao7, co7, eo7⟩ := Kd.R_slice HO604.out; subst eo7)); go_loopg [5, 12] k (fun kq v5 v12 w' => ∃ (x5_1 : List Int) (x12_1 : Int), v12 = .int .i64 x12_1 ∧ Aside0 (impl_SharedOf.l0 kq l1 x5_1 t602 (t602.length : Int) x12_1 = some r) ∧ Aside0 (kq ≤ k) ∧ Aside0 (Kd.R (Kd.int .i64) 3 w' w.heap.size (fun k_ => some k_ ≠ ((.slice Ao7 t602.length co7) : Value).ownBlock) v5 x5_1) ∧ Aside0 (Kd.R (Kd.int .i64) 3 w' w.heap.size (fun k_ => some k_ ≠ (v5 : Value).ownBlock) (.slice Ao7 t602.length co7) t602) ∧ Aside0 (Below w.heap.size w w'))
 case atStart => exact ⟨(y599), (0), (by first | rfl | (simp; done) | (simp [*]; done)), H', ⟨Nat.le_refl _⟩, ⟨zR (Kd.R_mono HO601.out (fun _ hk => hk.2))⟩, ⟨zR (Kd.R_mono HO604.out (fun _ hk => hk.2))⟩, ⟨zB HB.out⟩⟩
 case round =>
  clear H'; obtain ⟨x5_1, x12_1, rfl, HA, HK1, HO_5, HO_10, HB⟩ := hrel
  cases gk with
  | zero => exact absurd HA.out (by simp [impl_SharedOf.l0])
  | succ k1 =>
   have H := HA.out; clear HA; simp only [impl_SharedOf.l0] at H
   by_cases c8 : x12_1 < (t602.length : Int)
   ·rw [if_pos c8] at H; have c8b0 : decide (x12_1 < (t602.length : Int)) = true := decide_eq_true c8; clear c8; obtain ⟨c9, H⟩ := zi H; have c9b0 : decide (0 ≤ x12_1) = true := decide_eq_true c9; clear c9; obtain ⟨c10, H⟩ := zi H; have c10b0 : decide (x12_1 < (t602.length : Int)) = true := decide_eq_true c10; clear c10; obtain ⟨t606, A11, H⟩ := zb H; have HU12 := Aside0.mk H; clear H; have p605 : 0 ≤ (x12_1 : Int) := of_decide_eq_true (by assumption); have q605 : x12_1 < (t602.length : Int) := of_decide_eq_true (by assumption); obtain ⟨ad605, e605, hx605_0⟩ := Kd.at_int (Kd.R_reads' HO_10.out).2.2 x12_1 p605 q605
    cases e605; replace p605 := eq_true p605; replace q605 := eq_true q605; go_upto_if 18 with (first | ((with_reducible refine gate_callee (f := 49) rfl ?_); refine goesL_ (some 18) rfl rfl Tryz.func49 (by kernel_rfl) rfl #[.slice A1 l1.length c1, .int .i64 (rd t602 x12_1)] rfl (by (try simp only [za, zc, zn]); first | done | rfl) ?_; (with_reducible refine (slices_Contains_int_int.calls k1 _ _ l1 (rd t602 x12_1) t606 _ ?side1 ?side2 A11.out).mono ?_); (case side1 => exact zC (Kd.C_below HR1.out HB.out)); (case side2 => exact HC1.out); rintro e w' ⟨rfl, ⟨nd, rfl⟩⟩; refine ⟨_, rfl, ?_⟩))
    (try simp only [Act.put, List.setIfInBounds_toArray, List.set_cons_zero, List.set_cons_succ]); have H := HU12.out; clear HU12
    by_cases c13 : t606 = true
    ·subst c13; rw [zT] at H; obtain ⟨c14, H⟩ := zi H; have LMc14 := Aside0.mk c14; clear c14; obtain ⟨y607, Ny607⟩ : ∃ y_ : List Int, Aside0 (y_ = (x5_1 ++ [rd t602 x12_1])) := ⟨_, ⟨rfl⟩⟩; (try rw [Option.bind_some] at H); (try rw [← Ny607.out] at H); have H' := Aside0.mk H; clear H; go_wp2_with (first | ((with_reducible refine gate_builtin (b := .append) (xs := #[.tmp 19, .tmp 21]) rfl ?_); at_builtin; refine Kd.R_append (Kd.int .i64) (w0 := w) w.heap.size rfl (.tmp 19) (.tmp 21) 27 3 (.int .i64 0) 8 rfl Tryz.underlying27 info3 rfl (by decide) (by omega) u5 x5_1 (rd t602 x12_1) [.int .i64 (rd t602 x12_1)] (fun k_ => some k_ ≠ (.slice (some ad605) t602.length co7 : Value).ownBlock) (fun _ => False) rfl rfl ?aP (fun _ hk => hk.elim) ?aF ?aO ?aB ?aS ?aL ?_; (case aP => exact rfl); (case aB => exact (zB HB.out)); (case aF => exact (fun k_ hk => Kd.fresh' (Kd.R_lt (zR HO_10.out)) k_ hk)); (case aO => exact (zR HO_5.out)); (case aS => exact (zS HB.out)); (case aL => have := LMc14.out; omega); intro v608 w15 ho hb hg hat; rw [← Ny607.out] at ho; replace HO_10 := Aside0.mk (Kd.R_after (ok := (fun _ => True)) (zR (Kd.R_mono HO_10.out (fun _ hk => ⟨trivial, by first | exact hk | (rw [qO] at hk ⊢; exact hk)⟩))) hg hat); replace HB := Aside0.mk (hb); have HO609 := Aside0.mk (ho); clear HO_5; clear ho hb hg hat))
     go_roundg k1
     case measure => have := HK1.out; omega
     case rel => exact ⟨(y607), (wrap64 (x12_1 + 1)), (by first | rfl | (simp; done) | (simp [*]; done)), H', ⟨by have := HK1.out; omega⟩, ⟨zR HO609.out⟩, ⟨zR (Kd.R_mono HO_10.out (fun _ hk => hk.2))⟩, ⟨zB HB.out⟩⟩
    ·replace c13 := Bool.eq_false_iff.mpr c13; subst c13; rw [zF] at H; have H' := Aside0.mk H; clear H; go_wp2
     go_roundg k1
     case measure => have := HK1.out; omega
     case rel => exact ⟨(x5_1), (wrap64 (x12_1 + 1)), (by first | rfl | (simp; done) | (simp [*]; done)), H', ⟨by have := HK1.out; omega⟩, ⟨zR HO_5.out⟩, ⟨zR HO_10.out⟩, ⟨zB HB.out⟩⟩
   ·rw [if_neg c8] at H; have c8b0 : decide (x12_1 < (t602.length : Int)) = false := decide_eq_false c8; clear c8; obtain rfl := Option.some.inj H; go_wp2; go_ret
    exact ⟨_, by first | rfl | (simp [*, errW_none, errW_some] <;> rfl), zR (Kd.R_mono HO_5.out (fun _ hk => trivial)), zB HB.out⟩

/-! ### spec_HasNumber: function 25 -/
def spec_HasNumber.l0 : Nat → List Int → Int → Int → Option (Bool)
 | 0, _, _, _ => none
 | k + 1, x0, x1, x5 => if x5 < (x0.length : Int) then (if 0 ≤ x5 then (if (rd x0 x5) = x1 then (some true) else (spec_HasNumber.l0 k x0 x1 (wrap64 (x5 + 1)))) else (none)) else (some false)
def spec_HasNumber.f (k : Nat) (l0 : List Int) (a1 : Int) : Option (Bool) := spec_HasNumber.l0 k l0 a1 0
set_option maxHeartbeats 8000000 in
set_option maxRecDepth 100000 in
theorem spec_HasNumber.calls (k : Nat) (A0 : Option Addr) (c0 : Nat) (l0 : List Int) (a1 : Int) (r : Bool) (w : World) (hr0 : Kd.C (Kd.int .i64) w A0 l0.length l0) (hc0 : l0.length ≤ c0) (h : spec_HasNumber.f k l0 a1 = some r) :
  Calls Tryz.prog 25 #[.slice A0 l0.length c0, .int .i64 a1] w fun e w' => e = .returned (.bool r) ∧ Drawn0 w w' := by
 have HR0 := Aside0.mk hr0; have HC0 := Aside0.mk hc0; clear hr0 hc0; have H : (spec_HasNumber.l0 k l0 a1 0) = some r := h; clear h; have H' := Aside0.mk H; clear H; go_enter Tryz.func25, Tryz.ntmps25; go_wp2; go_loopg [5] k (fun kq v5 w' => ∃ (x5_1 : Int), v5 = .int .i64 x5_1 ∧ Aside0 (spec_HasNumber.l0 kq l0 a1 x5_1 = some r) ∧ Aside0 (kq ≤ k) ∧ Drawn0 w w')
 case atStart => exact ⟨(0), (by first | rfl | (simp; done) | (simp [*]; done)), H', ⟨Nat.le_refl _⟩, by repeat (first | exact Drawn0.refl _ | apply Drawn0.step)⟩
 case round =>
  clear H'; obtain ⟨x5_1, rfl, HA, HK1, ⟨m1, rfl⟩⟩ := hrel
  cases gk with
  | zero => exact absurd HA.out (by simp [spec_HasNumber.l0])
  | succ k1 =>
   have H := HA.out; clear HA; simp only [spec_HasNumber.l0] at H
   by_cases c3 : x5_1 < (l0.length : Int)
   ·rw [if_pos c3] at H; have c3b0 : decide (x5_1 < (l0.length : Int)) = true := decide_eq_true c3; clear c3; obtain ⟨c4, H⟩ := zi H; have c4b0 : decide (0 ≤ x5_1) = true := decide_eq_true c4; clear c4
    by_cases c5 : (rd l0 x5_1) = a1
    ·rw [if_pos c5] at H; have c5b0 : ((rd l0 x5_1) == a1) = true := beq_iff_eq.mpr c5; have c5b1 : ((rd l0 x5_1) != a1) = false := bne_eq_false_iff_eq.mpr c5; clear c5; obtain rfl := Option.some.inj H; have p610 : 0 ≤ (x5_1 : Int) := of_decide_eq_true (by assumption); have q610 : x5_1 < (l0.length : Int) := of_decide_eq_true (by assumption); obtain ⟨ad610, e610, hx610_0⟩ := Kd.at_int HR0.out x5_1 p610 q610
     cases e610; replace p610 := eq_true p610; replace q610 := eq_true q610; go_wp2; go_ret
     exact ⟨by first | rfl | (simp; done) | (simp [*]; done), by repeat (first | exact Drawn0.refl _ | apply Drawn0.step)⟩
    ·rw [if_neg c5] at H; have c5b0 : ((rd l0 x5_1) == a1) = false := beq_eq_false_iff_ne.mpr c5; have c5b1 : ((rd l0 x5_1) != a1) = true := bne_iff_ne.mpr c5; have H' := Aside0.mk H; clear H; have p610 : 0 ≤ (x5_1 : Int) := of_decide_eq_true (by assumption); have q610 : x5_1 < (l0.length : Int) := of_decide_eq_true (by assumption); obtain ⟨ad610, e610, hx610_0⟩ := Kd.at_int HR0.out x5_1 p610 q610
     cases e610; replace p610 := eq_true p610; replace q610 := eq_true q610; go_wp2
     go_roundg k1
     case measure => have := HK1.out; omega
     case rel => exact ⟨(wrap64 (x5_1 + 1)), (by first | rfl | (simp; done) | (simp [*]; done)), H', ⟨by have := HK1.out; omega⟩, by repeat (first | exact Drawn0.refl _ | apply Drawn0.step)⟩
   ·rw [if_neg c3] at H; have c3b0 : decide (x5_1 < (l0.length : Int)) = false := decide_eq_false c3; clear c3; obtain rfl := Option.some.inj H; go_wp2; go_ret
    exact ⟨by first | rfl | (simp; done) | (simp [*]; done), by repeat (first | exact Drawn0.refl _ | apply Drawn0.step)⟩

/-! ### spec_SharedOf: function 23 -/
def spec_SharedOf.l0 : Nat → List Int → List Int → List Int → Int → Option (List Int)
 | 0, _, _, _, _ => none
 | k + 1, x0, x1, x5, x6 => if x6 < (x0.length : Int) then (if 0 ≤ x6 then ((spec_HasNumber.f k x1 (rd x0 x6)).bind fun t615 => (if t615 = true then (if x5.length < 17592186044416 then (spec_SharedOf.l0 k x0 x1 (x5 ++ [rd x0 x6]) (wrap64 (x6 + 1))) else (none)) else (spec_SharedOf.l0 k x0 x1 x5 (wrap64 (x6 + 1))))) else (none)) else ((spec_SortList.f k x5).bind fun t620 => (some t620))
def spec_SharedOf.f (k : Nat) (l0 : List Int) (l1 : List Int) : Option (List Int) := spec_SharedOf.l0 k l0 l1 (([] : List Int)) 0
set_option maxHeartbeats 8000000 in
set_option maxRecDepth 100000 in
theorem spec_SharedOf.calls (k : Nat) (A0 : Option Addr) (c0 : Nat) (l0 : List Int) (A1 : Option Addr) (c1 : Nat) (l1 : List Int) (r : List Int) (w : World) (hr0 : Kd.C (Kd.int .i64) w A0 l0.length l0) (hc0 : l0.length ≤ c0) (hr1 : Kd.C (Kd.int .i64) w A1 l1.length l1) (hc1 : l1.length ≤ c1) (h : spec_SharedOf.f k l0 l1 = some r) :
  Calls Tryz.prog 23 #[.slice A0 l0.length c0, .slice A1 l1.length c1] w fun e w' => ∃ v0_ : Value, e = .returned (v0_) ∧ Kd.R (Kd.int .i64) 3 w' w.heap.size (fun _ => True) v0_ r ∧ Below w.heap.size w w' := by
 have HR0 := Aside0.mk hr0; have HC0 := Aside0.mk hc0; clear hr0 hc0; have HR1 := Aside0.mk hr1; have HC1 := Aside0.mk hc1; clear hr1 hc1; have HB := Aside0.mk (Below.refl w.heap.size w); have H : (spec_SharedOf.l0 k l0 l1 (([] : List Int)) 0) = some r := h; clear h; obtain ⟨y611, hy611⟩ : ∃ y_ : List Int, y_ = (([] : List Int)) := ⟨_, rfl⟩; replace H : (spec_SharedOf.l0 k l0 l1 y611 0) = some r := by first | (rw [hy611]; with_reducible exact H) | (have H2_ := (Option.bind_some _ _).symm.trans H; rw [hy611]; with_reducible exact H2_) | (have H2_ := (Option.bind_some _ _).symm.trans H; with_reducible exact H2_) | with_reducible exact H | (rw [hy611]; exact H) | exact H
 have Ny611 := Aside0.mk hy611; clear hy611; have H' := Aside0.mk H; clear H; go_enter Tryz.func23, Tryz.ntmps23; go_wp2_with (first | ((with_reducible refine gate_dst (N := 7) rfl ?_); refine Kd.R_lit (Kd.int .i64) _ 3 ?hg (N := 7) ?hd (xs := ([] : List Int)) (inner := []) (ok := fun _ => True) (okp := fun _ => True) ?hr ?hp (fun _ hk => hk) trivial (Below.refl _ _) (Nat.le_refl _) (by simp) ?_; (case hd => rfl); (case hg => rfl); (case hr => first | (go_simp; done) | (go_simp; rfl)); (case hp => exact (Reps.none _ _)); intro v612 w3 ho4 hb hg_ hnew_; clear hg_ hnew_; (first | rw [← Ny611.out] at ho4 | (simp only [Int.reduceToNat] at ho4; rw [← Ny611.out] at ho4)); have HO613 := Aside0.mk (Kd.R_lower ho4 (zS HB.out)); replace HB := Aside0.mk (below_step (zB HB.out) hb); clear hb ho4)); go_loopg [5, 6] k (fun kq v5 v6 w' => ∃ (x5_1 : List Int) (x6_1 : Int), v6 = .int .i64 x6_1 ∧ Aside0 (spec_SharedOf.l0 kq l0 l1 x5_1 x6_1 = some r) ∧ Aside0 (kq ≤ k) ∧ Aside0 (Kd.R (Kd.int .i64) 3 w' w.heap.size (fun _ => True) v5 x5_1) ∧ Aside0 (Below w.heap.size w w'))
 case atStart => exact ⟨(y611), (0), (by first | rfl | (simp; done) | (simp [*]; done)), H', ⟨Nat.le_refl _⟩, ⟨zR HO613.out⟩, ⟨zB HB.out⟩⟩
 case round =>
  clear H'; obtain ⟨x5_1, x6_1, rfl, HA, HK1, HO_5, HB⟩ := hrel
  cases gk with
  | zero => exact absurd HA.out (by simp [spec_SharedOf.l0])
  | succ k1 =>
   have H := HA.out; clear HA; simp only [spec_SharedOf.l0] at H
   by_cases c5 : x6_1 < (l0.length : Int)
   ·rw [if_pos c5] at H; have c5b0 : decide (x6_1 < (l0.length : Int)) = true := decide_eq_true c5; clear c5; obtain ⟨c6, H⟩ := zi H; have c6b0 : decide (0 ≤ x6_1) = true := decide_eq_true c6; clear c6; obtain ⟨t615, A7, H⟩ := zb H; have HU8 := Aside0.mk H; clear H; have p614 : 0 ≤ (x6_1 : Int) := of_decide_eq_true (by assumption); have q614 : x6_1 < (l0.length : Int) := of_decide_eq_true (by assumption); obtain ⟨ad614, e614, hx614_0⟩ := Kd.at_int HR0.out x6_1 p614 q614
    cases e614; (try replace hx614_0 := (HB.out.cell (World.block_lt_of_cell? w _ hx614_0)).trans hx614_0); replace p614 := eq_true p614; replace q614 := eq_true q614; go_upto_if 19 with (first | ((with_reducible refine gate_callee (f := 25) rfl ?_); refine goesL_ (some 19) rfl rfl Tryz.func25 (by kernel_rfl) rfl #[.slice A1 l1.length c1, .int .i64 (rd l0 x6_1)] rfl (by (try simp only [za, zc, zn]); first | done | rfl) ?_; (with_reducible refine (spec_HasNumber.calls k1 _ _ l1 (rd l0 x6_1) t615 _ ?side1 ?side2 A7.out).mono ?_); (case side1 => exact zC (Kd.C_below HR1.out HB.out)); (case side2 => exact HC1.out); rintro e w' ⟨rfl, ⟨nd, rfl⟩⟩; refine ⟨_, rfl, ?_⟩))
    (try simp only [Act.put, List.setIfInBounds_toArray, List.set_cons_zero, List.set_cons_succ]); have H := HU8.out; clear HU8
    by_cases c9 : t615 = true
    ·subst c9; rw [zT] at H; obtain ⟨c10, H⟩ := zi H; have LMc10 := Aside0.mk c10; clear c10; obtain ⟨y617, Ny617⟩ : ∃ y_ : List Int, Aside0 (y_ = (x5_1 ++ [rd l0 x6_1])) := ⟨_, ⟨rfl⟩⟩; (try rw [Option.bind_some] at H); (try rw [← Ny617.out] at H); have H' := Aside0.mk H; clear H; have p616 : 0 ≤ (x6_1 : Int) := of_decide_eq_true (by assumption); have q616 : x6_1 < (l0.length : Int) := of_decide_eq_true (by assumption); obtain ⟨ad616, e616, hx616_0⟩ := Kd.at_int HR0.out x6_1 p616 q616; obtain rfl : ad614 = ad616 := (by injection e616); (try replace hx616_0 := (HB.out.cell (World.block_lt_of_cell? w _ hx616_0)).trans hx616_0); replace p616 := eq_true p616; replace q616 := eq_true q616; go_wp2_with (first | ((with_reducible refine gate_builtin (b := .append) (xs := #[.tmp 20, .tmp 25]) rfl ?_); at_builtin; refine Kd.R_append (Kd.int .i64) (w0 := w) w.heap.size rfl (.tmp 20) (.tmp 25) 27 3 (.int .i64 0) 8 rfl Tryz.underlying27 info3 rfl (by decide) (by omega) u5 x5_1 (rd l0 x6_1) [.int .i64 (rd l0 x6_1)] (fun _ => True) (fun _ => False) rfl rfl ?aP (fun _ hk => hk.elim) ?aF ?aO ?aB ?aS ?aL ?_; (case aP => exact rfl); (case aB => exact (zB HB.out)); (case aF => exact (fun _ _ => trivial)); (case aO => exact (zR HO_5.out)); (case aS => exact (zS HB.out)); (case aL => have := LMc10.out; omega); intro v618 w11 ho hb hg hat; rw [← Ny617.out] at ho; replace HB := Aside0.mk (hb); have HO619 := Aside0.mk (ho); clear HO_5; clear ho hb hg hat))
     go_roundg k1
     case measure => have := HK1.out; omega
     case rel => exact ⟨(y617), (wrap64 (x6_1 + 1)), (by first | rfl | (simp; done) | (simp [*]; done)), H', ⟨by have := HK1.out; omega⟩, ⟨zR HO619.out⟩, ⟨zB HB.out⟩⟩
    ·replace c9 := Bool.eq_false_iff.mpr c9; subst c9; rw [zF] at H; have H' := Aside0.mk H; clear H; go_wp2
     go_roundg k1
     case measure => have := HK1.out; omega
     case rel => exact ⟨(x5_1), (wrap64 (x6_1 + 1)), (by first | rfl | (simp; done) | (simp [*]; done)), H', ⟨by have := HK1.out; omega⟩, ⟨zR HO_5.out⟩, ⟨zB HB.out⟩⟩
   ·rw [if_neg c5] at H; have c5b0 : decide (x6_1 < (l0.length : Int)) = false := decide_eq_false c5; clear c5; obtain ⟨t620, A12, H⟩ := zb H; obtain rfl := Option.some.inj H; obtain ⟨Ao13, co13, eo13⟩ := Kd.R_slice HO_5.out; subst eo13; go_wp2_with (first | ((with_reducible refine gate_callee (f := 18) rfl ?_); refine goesL_ (some 28) rfl rfl Tryz.func18 (by kernel_rfl) rfl #[.slice Ao13 x5_1.length co13] rfl (by (try simp only [za, zc, zn]); first | done | rfl) ?_; (with_reducible refine (spec_SortList.calls k1 _ _ x5_1 t620 _ ?side1 ?side2 A12.out).mono ?_); (case side1 => repeat (first | exact (Kd.R_reads' HO_5.out).2.2 | (with_reducible refine Kd.C_alloc ?_ _) | (with_reducible refine Kd.C_drewN ?_ _) | (with_reducible refine Kd.C_drew ?_))); (case side2 => exact (Kd.R_reads' HO_5.out).2.1); rintro e w14 ⟨v621, rfl, ho0, hb⟩; refine ⟨_, rfl, ?_⟩; have HO622 := Aside0.mk (Kd.R_lower (Kd.R_new' ho0 (Kd.R_lt (zR HO_5.out))) (zS HB.out)); replace HO_5 := Aside0.mk (Kd.R_elder' (zR HO_5.out) (Kd.R_base ho0) hb); replace HB := Aside0.mk (below_step (zB HB.out) hb); (try clear hb); (try clear hb2); (try clear hk); (try clear hi); (try clear ho0))); go_ret
    exact ⟨_, by first | rfl | (simp [*, errW_none, errW_some] <;> rfl), zR (Kd.R_mono HO622.out (fun _ hk => trivial)), zB HB.out⟩

/-! ### impl_HasNumber: function 24 -/
def impl_HasNumber.f (k : Nat) (l0 : List Int) (a1 : Int) : Option (Bool) := (slices_Contains_int_int.f k l0 a1).bind fun t623 => (some t623)
set_option maxHeartbeats 8000000 in
set_option maxRecDepth 100000 in
theorem impl_HasNumber.calls (k : Nat) (A0 : Option Addr) (c0 : Nat) (l0 : List Int) (a1 : Int) (r : Bool) (w : World) (hr0 : Kd.C (Kd.int .i64) w A0 l0.length l0) (hc0 : l0.length ≤ c0) (h : impl_HasNumber.f k l0 a1 = some r) :
  Calls Tryz.prog 24 #[.slice A0 l0.length c0, .int .i64 a1] w fun e w' => e = .returned (.bool r) ∧ Drawn0 w w' := by
 have HR0 := Aside0.mk hr0; have HC0 := Aside0.mk hc0; clear hr0 hc0; have H : ((slices_Contains_int_int.f k l0 a1).bind fun t623 => (some t623)) = some r := h; clear h; obtain ⟨t623, A3, H⟩ := zb H; obtain rfl := Option.some.inj H; go_enter Tryz.func24, Tryz.ntmps24; go_wp2_with (first | ((with_reducible refine gate_callee (f := 49) rfl ?_); refine goesL_ (some 7) rfl rfl Tryz.func49 (by kernel_rfl) rfl #[.slice A0 l0.length c0, .int .i64 a1] rfl (by (try simp only [za, zc, zn]); first | done | rfl) ?_; (with_reducible refine (slices_Contains_int_int.calls k _ _ l0 a1 t623 _ ?side1 ?side2 A3.out).mono ?_); (case side1 => repeat (first | exact HR0.out | (with_reducible refine Kd.C_alloc ?_ _) | (with_reducible refine Kd.C_drewN ?_ _) | (with_reducible refine Kd.C_drew ?_))); (case side2 => exact HC0.out); rintro e w' ⟨rfl, ⟨nd, rfl⟩⟩; refine ⟨_, rfl, ?_⟩)); go_ret
 exact ⟨by first | rfl | (simp; done) | (simp [*]; done), by repeat (first | exact Drawn0.refl _ | apply Drawn0.step)⟩

/-! ### impl_IsAscending: function 26 -/
def impl_IsAscending.l0 : Nat → List Int → Int → Option (Bool)
 | 0, _, _ => none
 | k + 1, x0, x3 => if x3 < (x0.length : Int) then (if 0 ≤ x3 then (if 0 ≤ (wrap64 (x3 - 1)) then (if (wrap64 (x3 - 1)) < (x0.length : Int) then (if (rd x0 x3) ≤ (rd x0 (wrap64 (x3 - 1))) then (some false) else (impl_IsAscending.l0 k x0 (wrap64 (x3 + 1)))) else (none)) else (none)) else (none)) else (some true)
def impl_IsAscending.f (k : Nat) (l0 : List Int) : Option (Bool) := impl_IsAscending.l0 k l0 1
set_option maxHeartbeats 8000000 in
set_option maxRecDepth 100000 in
theorem impl_IsAscending.calls (k : Nat) (A0 : Option Addr) (c0 : Nat) (l0 : List Int) (r : Bool) (w : World) (hr0 : Kd.C (Kd.int .i64) w A0 l0.length l0) (hc0 : l0.length ≤ c0) (h : impl_IsAscending.f k l0 = some r) :
  Calls Tryz.prog 26 #[.slice A0 l0.length c0] w fun e w' => e = .returned (.bool r) ∧ Drawn0 w w' := by
 have HR0 := Aside0.mk hr0; have HC0 := Aside0.mk hc0; clear hr0 hc0; have H : (impl_IsAscending.l0 k l0 1) = some r := h; clear h; have H' := Aside0.mk H; clear H; go_enter Tryz.func26, Tryz.ntmps26; go_wp2
 repeat (go_quiet (fail); try go_wp2)
 go_loopg [3] k (fun kq v3 w' => ∃ (x3_1 : Int), v3 = .int .i64 x3_1 ∧ Aside0 (impl_IsAscending.l0 kq l0 x3_1 = some r) ∧ Aside0 (kq ≤ k) ∧ Drawn0 w w')
 case atStart => exact ⟨(1), (by first | rfl | (simp; done) | (simp [*]; done)), H', ⟨Nat.le_refl _⟩, by repeat (first | exact Drawn0.refl _ | apply Drawn0.step)⟩
 case round =>
  clear H'; obtain ⟨x3_1, rfl, HA, HK1, ⟨m1, rfl⟩⟩ := hrel
  cases gk with
  | zero => exact absurd HA.out (by simp [impl_IsAscending.l0])
  | succ k1 =>
   have H := HA.out; clear HA; simp only [impl_IsAscending.l0] at H
   by_cases c2 : x3_1 < (l0.length : Int)
   ·rw [if_pos c2] at H; have c2b0 : decide (x3_1 < (l0.length : Int)) = true := decide_eq_true c2; clear c2; obtain ⟨c3, H⟩ := zi H; have c3b0 : decide (0 ≤ x3_1) = true := decide_eq_true c3; clear c3; obtain ⟨ji4, hji4⟩ : ∃ j_ : Int, (wrap64 (x3_1 - 1)) = j_ := ⟨_, rfl⟩; replace H : (if 0 ≤ (ji4) then (if (ji4) < (l0.length : Int) then (if (rd l0 x3_1) ≤ (rd l0 (ji4)) then (some false) else (impl_IsAscending.l0 k1 l0 (wrap64 (x3_1 + 1)))) else (none)) else (none)) = some r := by first | (rw [hji4] at H; exact H) | (simp only [hji4] at H ⊢; exact H)
    have hji4w : (IntKind.i64.wrap (x3_1 - 1)) = ji4 := (i64_w _).trans hji4; obtain ⟨c5, H⟩ := zi H; have c5b0 : decide (0 ≤ (ji4)) = true := decide_eq_true c5; clear c5; obtain ⟨c6, H⟩ := zi H; have c6b0 : decide ((ji4) < (l0.length : Int)) = true := decide_eq_true c6; clear c6
    by_cases c7 : (rd l0 x3_1) ≤ (rd l0 (ji4))
    ·rw [if_pos c7] at H; have c7b0 : decide ((rd l0 x3_1) ≤ (rd l0 (ji4))) = true := decide_eq_true c7; clear c7; obtain rfl := Option.some.inj H; have p624 : 0 ≤ (x3_1 : Int) := of_decide_eq_true (by assumption); have q624 : x3_1 < (l0.length : Int) := of_decide_eq_true (by assumption); obtain ⟨ad624, e624, hx624_0⟩ := Kd.at_int HR0.out x3_1 p624 q624
     cases e624; replace p624 := eq_true p624; replace q624 := eq_true q624; have p625 : 0 ≤ ((ji4) : Int) := of_decide_eq_true (by assumption); have q625 : (ji4) < (l0.length : Int) := of_decide_eq_true (by assumption); obtain ⟨ad625, e625, hx625_0⟩ := Kd.at_int HR0.out (ji4) p625 q625; obtain rfl : ad624 = ad625 := (by injection e625); replace p625 := eq_true p625; replace q625 := eq_true q625; go_wp2
     repeat (go_quiet (fail); try go_wp2)
     go_ret
     exact ⟨by first | rfl | (simp; done) | (simp only [← hji4] <;> (first | rfl | simp)) | (simp [*]; done), by repeat (first | exact Drawn0.refl _ | apply Drawn0.step)⟩
    ·rw [if_neg c7] at H; have c7b0 : decide ((rd l0 x3_1) ≤ (rd l0 (ji4))) = false := decide_eq_false c7; clear c7; have H' := Aside0.mk H; clear H; have p624 : 0 ≤ (x3_1 : Int) := of_decide_eq_true (by assumption); have q624 : x3_1 < (l0.length : Int) := of_decide_eq_true (by assumption); obtain ⟨ad624, e624, hx624_0⟩ := Kd.at_int HR0.out x3_1 p624 q624
     cases e624; replace p624 := eq_true p624; replace q624 := eq_true q624; have p625 : 0 ≤ ((ji4) : Int) := of_decide_eq_true (by assumption); have q625 : (ji4) < (l0.length : Int) := of_decide_eq_true (by assumption); obtain ⟨ad625, e625, hx625_0⟩ := Kd.at_int HR0.out (ji4) p625 q625; obtain rfl : ad624 = ad625 := (by injection e625); replace p625 := eq_true p625; replace q625 := eq_true q625; go_wp2
     repeat (go_quiet (fail); try go_wp2)
     go_roundg k1
     case measure => have := HK1.out; omega
     case rel => exact ⟨(wrap64 (x3_1 + 1)), (by first | rfl | (simp; done) | (simp [*]; done)), H', ⟨by have := HK1.out; omega⟩, by repeat (first | exact Drawn0.refl _ | apply Drawn0.step)⟩
   ·rw [if_neg c2] at H; have c2b0 : decide (x3_1 < (l0.length : Int)) = false := decide_eq_false c2; clear c2; obtain rfl := Option.some.inj H; go_wp2
    repeat (go_quiet (fail); try go_wp2)
    go_ret
    exact ⟨by first | rfl | (simp; done) | (simp [*]; done), by repeat (first | exact Drawn0.refl _ | apply Drawn0.step)⟩

/-! ### impl_GcdOfList: function 27 -/
def impl_GcdOfList.l0 : Nat → Int → List Int → Int → Int → Option (Int)
 | 0, _, _, _, _ => none
 | k + 1, x3, x6, x7, x8 => if x8 < x7 then (if 0 ≤ x8 then (if x8 < (x6.length : Int) then ((impl_GcdOf.f k x3 (rd x6 x8)).bind fun t627 => (impl_GcdOfList.l0 k t627 x6 x7 (wrap64 (x8 + 1)))) else (none)) else (none)) else (some x3)
def impl_GcdOfList.f (k : Nat) (l0 : List Int) : Option (Int) := impl_GcdOfList.l0 k 0 l0 (l0.length : Int) 0
set_option maxHeartbeats 8000000 in
set_option maxRecDepth 100000 in
theorem impl_GcdOfList.calls (k : Nat) (A0 : Option Addr) (c0 : Nat) (l0 : List Int) (r : Int) (w : World) (hr0 : Kd.C (Kd.int .i64) w A0 l0.length l0) (hc0 : l0.length ≤ c0) (h : impl_GcdOfList.f k l0 = some r) :
  Calls Tryz.prog 27 #[.slice A0 l0.length c0] w fun e w' => e = .returned (.int .i64 r) ∧ Below w.heap.size w w' := by
 have HR0 := Aside0.mk hr0; have HC0 := Aside0.mk hc0; clear hr0 hc0; have HB := Aside0.mk (Below.refl w.heap.size w); have H : (impl_GcdOfList.l0 k 0 l0 (l0.length : Int) 0) = some r := h; clear h; have H' := Aside0.mk H; clear H; go_enter Tryz.func27, Tryz.ntmps27; go_wp2; go_loopg [3, 8] k (fun kq v3 v8 w' => ∃ (x3_1 : Int) (x8_1 : Int), v3 = .int .i64 x3_1 ∧ v8 = .int .i64 x8_1 ∧ Aside0 (impl_GcdOfList.l0 kq x3_1 l0 (l0.length : Int) x8_1 = some r) ∧ Aside0 (kq ≤ k) ∧ Aside0 (Below w.heap.size w w'))
 case atStart => exact ⟨(0), (0), (by first | rfl | (simp; done) | (simp [*]; done)), (by first | rfl | (simp; done) | (simp [*]; done)), H', ⟨Nat.le_refl _⟩, ⟨zB HB.out⟩⟩
 case round =>
  clear H'; obtain ⟨x3_1, x8_1, rfl, rfl, HA, HK1, HB⟩ := hrel
  cases gk with
  | zero => exact absurd HA.out (by simp [impl_GcdOfList.l0])
  | succ k1 =>
   have H := HA.out; clear HA; simp only [impl_GcdOfList.l0] at H
   by_cases c2 : x8_1 < (l0.length : Int)
   ·rw [if_pos c2] at H; have c2b0 : decide (x8_1 < (l0.length : Int)) = true := decide_eq_true c2; clear c2; obtain ⟨c3, H⟩ := zi H; have c3b0 : decide (0 ≤ x8_1) = true := decide_eq_true c3; clear c3; obtain ⟨c4, H⟩ := zi H; have c4b0 : decide (x8_1 < (l0.length : Int)) = true := decide_eq_true c4; clear c4; obtain ⟨t627, A5, H⟩ := zb H; have H' := Aside0.mk H; clear H; have p626 : 0 ≤ (x8_1 : Int) := of_decide_eq_true (by assumption); have q626 : x8_1 < (l0.length : Int) := of_decide_eq_true (by assumption); obtain ⟨ad626, e626, hx626_0⟩ := Kd.at_int HR0.out x8_1 p626 q626
    cases e626; (try replace hx626_0 := (HB.out.cell (World.block_lt_of_cell? w _ hx626_0)).trans hx626_0); replace p626 := eq_true p626; replace q626 := eq_true q626; go_wp2_with (first | ((with_reducible refine gate_callee (f := 6) rfl ?_); refine goesL_ (some 14) rfl rfl Tryz.func6 (by kernel_rfl) rfl #[.int .i64 x3_1, .int .i64 (rd l0 x8_1)] rfl (by (try simp only [za, zc, zn]); first | done | rfl) ?_; (with_reducible refine (impl_GcdOf.calls k1 x3_1 (rd l0 x8_1) t627 _ A5.out).mono ?_); rintro e w6 ⟨rfl, hb⟩; refine ⟨_, rfl, ?_⟩; replace HB := Aside0.mk (below_step (zB HB.out) hb); (try clear hb); (try clear hb2); (try clear hk); (try clear hi)))
    go_roundg k1
    case measure => have := HK1.out; omega
    case rel => exact ⟨(t627), (wrap64 (x8_1 + 1)), (by first | rfl | (simp; done) | (simp [*]; done)), (by first | rfl | (simp; done) | (simp [*]; done)), H', ⟨by have := HK1.out; omega⟩, ⟨zB HB.out⟩⟩
   ·rw [if_neg c2] at H; have c2b0 : decide (x8_1 < (l0.length : Int)) = false := decide_eq_false c2; clear c2; obtain rfl := Option.some.inj H; go_wp2; go_ret
    exact ⟨by first | rfl | (simp [*, errW_none, errW_some] <;> rfl), zB HB.out⟩

/-! ### spec_GcdOfList: function 28 -/
def spec_GcdOfList.l0 : Nat → List Int → Int → Int → Option (Int)
 | 0, _, _, _ => none
 | k + 1, x0, x3, x4 => if x4 < (x0.length : Int) then (if 0 ≤ x4 then ((spec_GcdOf.f k x3 (rd x0 x4)).bind fun t629 => (spec_GcdOfList.l0 k x0 t629 (wrap64 (x4 + 1)))) else (none)) else (some x3)
def spec_GcdOfList.f (k : Nat) (l0 : List Int) : Option (Int) := spec_GcdOfList.l0 k l0 0 0
set_option maxHeartbeats 8000000 in
set_option maxRecDepth 100000 in
theorem spec_GcdOfList.calls (k : Nat) (A0 : Option Addr) (c0 : Nat) (l0 : List Int) (r : Int) (w : World) (hr0 : Kd.C (Kd.int .i64) w A0 l0.length l0) (hc0 : l0.length ≤ c0) (h : spec_GcdOfList.f k l0 = some r) :
  Calls Tryz.prog 28 #[.slice A0 l0.length c0] w fun e w' => e = .returned (.int .i64 r) ∧ Drawn0 w w' := by
 have HR0 := Aside0.mk hr0; have HC0 := Aside0.mk hc0; clear hr0 hc0; have H : (spec_GcdOfList.l0 k l0 0 0) = some r := h; clear h; have H' := Aside0.mk H; clear H; go_enter Tryz.func28, Tryz.ntmps28; go_wp2; go_loopg [3, 4] k (fun kq v3 v4 w' => ∃ (x3_1 : Int) (x4_1 : Int), v3 = .int .i64 x3_1 ∧ v4 = .int .i64 x4_1 ∧ Aside0 (spec_GcdOfList.l0 kq l0 x3_1 x4_1 = some r) ∧ Aside0 (kq ≤ k) ∧ Drawn0 w w')
 case atStart => exact ⟨(0), (0), (by first | rfl | (simp; done) | (simp [*]; done)), (by first | rfl | (simp; done) | (simp [*]; done)), H', ⟨Nat.le_refl _⟩, by repeat (first | exact Drawn0.refl _ | apply Drawn0.step)⟩
 case round =>
  clear H'; obtain ⟨x3_1, x4_1, rfl, rfl, HA, HK1, ⟨m1, rfl⟩⟩ := hrel
  cases gk with
  | zero => exact absurd HA.out (by simp [spec_GcdOfList.l0])
  | succ k1 =>
   have H := HA.out; clear HA; simp only [spec_GcdOfList.l0] at H
   by_cases c2 : x4_1 < (l0.length : Int)
   ·rw [if_pos c2] at H; have c2b0 : decide (x4_1 < (l0.length : Int)) = true := decide_eq_true c2; clear c2; obtain ⟨c3, H⟩ := zi H; have c3b0 : decide (0 ≤ x4_1) = true := decide_eq_true c3; clear c3; obtain ⟨t629, A4, H⟩ := zb H; have H' := Aside0.mk H; clear H; have p628 : 0 ≤ (x4_1 : Int) := of_decide_eq_true (by assumption); have q628 : x4_1 < (l0.length : Int) := of_decide_eq_true (by assumption); obtain ⟨ad628, e628, hx628_0⟩ := Kd.at_int HR0.out x4_1 p628 q628
    cases e628; replace p628 := eq_true p628; replace q628 := eq_true q628; go_wp2_with (first | ((with_reducible refine gate_callee (f := 16) rfl ?_); refine goesL_ (some 16) rfl rfl Tryz.func16 (by kernel_rfl) rfl #[.int .i64 x3_1, .int .i64 (rd l0 x4_1)] rfl (by (try simp only [za, zc, zn]); first | done | rfl) ?_; (with_reducible refine (spec_GcdOf.calls k1 x3_1 (rd l0 x4_1) t629 _ A4.out).mono ?_); rintro e w' ⟨rfl, ⟨nd, rfl⟩⟩; refine ⟨_, rfl, ?_⟩))
    go_roundg k1
    case measure => have := HK1.out; omega
    case rel => exact ⟨(t629), (wrap64 (x4_1 + 1)), (by first | rfl | (simp; done) | (simp [*]; done)), (by first | rfl | (simp; done) | (simp [*]; done)), H', ⟨by have := HK1.out; omega⟩, by repeat (first | exact Drawn0.refl _ | apply Drawn0.step)⟩
   ·rw [if_neg c2] at H; have c2b0 : decide (x4_1 < (l0.length : Int)) = false := decide_eq_false c2; clear c2; obtain rfl := Option.some.inj H; go_wp2; go_ret
    exact ⟨by first | rfl | (simp; done) | (simp [*]; done), by repeat (first | exact Drawn0.refl _ | apply Drawn0.step)⟩

/-! ### spec_DrawListText: function 29 -/
def spec_DrawListText.f (k : Nat) (l0 : List Int) : Option (List Int) := (spec_l1New.f k l0).bind fun bt630 => ((spec_l2Draw.f k bt630.1 bt630.2.1 bt630.2.2).bind fun bt634 => (some bt634.1))
set_option maxHeartbeats 8000000 in
set_option maxRecDepth 100000 in
theorem spec_DrawListText.calls (k : Nat) (A0 : Option Addr) (c0 : Nat) (l0 : List Int) (r : List Int) (w : World) (hr0 : Kd.C (Kd.int .u8) w A0 l0.length l0) (hc0 : l0.length ≤ c0) (h : spec_DrawListText.f k l0 = some r) :
  Calls Tryz.prog 29 #[.slice A0 l0.length c0] w fun e w' => ∃ v0_ : Value, e = .returned (v0_) ∧ Kd.R (Kd.int .i64) 3 w' w.heap.size (fun _ => True) v0_ r ∧ Below w.heap.size w w' := by
 have HR0 := Aside0.mk hr0; have HC0 := Aside0.mk hc0; clear hr0 hc0; have HB := Aside0.mk (Below.refl w.heap.size w); have H : ((spec_l1New.f k l0).bind fun bt630 => ((spec_l2Draw.f k bt630.1 bt630.2.1 bt630.2.2).bind fun bt634 => (some bt634.1))) = some r := h; clear h; obtain ⟨⟨t630, t631, t632⟩, A2, H⟩ := zb H; (try dsimp only at H); obtain ⟨⟨t634, t637, t638⟩, A3, H⟩ := zb H; (try dsimp only at H); obtain rfl := Option.some.inj H; go_enter Tryz.func29, Tryz.ntmps29; go_wp2_with (first | ((with_reducible refine gate_callee (f := 32) rfl ?_); refine goesL_ (some 4) rfl rfl Tryz.func32 (by kernel_rfl) rfl #[.slice A0 l0.length c0] rfl (by (try simp only [za, zc, zn]); first | done | rfl) ?_; (with_reducible refine (spec_l1New.calls k _ _ l0 t630 t631 t632 w _ ?side1 ?side2 ?side3 A2.out).mono ?_); (case side1 => repeat (first | (with_reducible first | exact HB.out | apply below_alloc | apply pw_below_drewN | apply below_drew1) | exact HB.out)); (case side2 => exact HR0.out); (case side3 => exact HC0.out); rintro e w4 ⟨g633, rfl, hi, hb, hb2⟩; refine ⟨_, rfl, ?_⟩; replace HB := Aside0.mk (hb); have HI633 := Aside0.mk (hi); (try clear hb); (try clear hb2); (try clear hk); (try clear hi)) | ((with_reducible refine gate_callee (f := 38) rfl ?_); refine goesL_ (some 5) rfl rfl Tryz.func38 (by kernel_rfl) rfl #[.pointer (some ⟨g633, 0, none⟩)] rfl (by (try simp only [za, zc, zn]); first | done | rfl) ?_; (with_reducible refine (spec_l2Draw.calls k g633 t630 t631 t632 t634 t637 t638 w _ ?side1 ?side2 A3.out).mono ?_); (case side1 => repeat (first | (with_reducible first | exact HI633.out | apply IsS60.alloc | apply IsS60.drewN | apply IsS60.drew | apply IsS60.set_1 | apply IsS60.set_2) | exact HI633.out)); (case side2 => repeat (first | (with_reducible first | exact HB.out | apply below_alloc | apply pw_below_drewN | apply below_drew1 | refine below_set ?_ (IsS60.ge HI633.out)) | exact HB.out)); rintro e w5 ⟨v635, rfl, ho0, hi, hb, hk⟩; refine ⟨_, rfl, ?_⟩; have HO636 := Aside0.mk (Kd.R_lower ho0 (below_size (by repeat (first | (with_reducible first | exact HB.out | apply below_alloc | apply pw_below_drewN | apply below_drew1 | refine below_set ?_ (IsS60.ge HI633.out)) | exact HB.out)))); replace HB := Aside0.mk (hb); replace HI633 := Aside0.mk (hi); (try clear hb); (try clear hb2); (try clear hk); (try clear hi); (try clear ho0))); go_ret
 exact ⟨_, by first | rfl | (simp [*, errW_none, errW_some] <;> rfl), zR HO636.out, by repeat (first | (with_reducible first | exact HB.out | apply below_alloc | apply pw_below_drewN | apply below_drew1 | refine below_set ?_ (IsS60.ge HI633.out)) | exact HB.out)⟩

/-! ### strings_Join: function 64 -/
theorem cell_spot {w : World} {a : Addr} {v : Value} (h : w.cell? a = some v) : a = ⟨a.block, a.off, none⟩ := by
 obtain ⟨b, o, s⟩ := a
 cases s with
 | none => rfl
 | some s =>
  unfold World.cell? at h
  split at h <;> simp at h
def strings_Join.f (l0 : List ByteArray) (a1 : ByteArray) : Option (ByteArray) := if l0.length ≤ 140737488355328 ∧ (Lib.join (l0.map (·.data.toList)) a1.data.toList).length ≤ 140737488355328 then some ⟨(Lib.join (l0.map (·.data.toList)) a1.data.toList).toArray⟩ else none
theorem strings_Join.calls (A0 : Option Addr) (c0 : Nat) (l0 : List ByteArray) (a1 : ByteArray) (r : ByteArray) (w : World) (hr0 : Kd.C Kd.string w A0 l0.length l0) (hc0 : l0.length ≤ c0) (h : strings_Join.f l0 a1 = some r) :
 Calls Tryz.prog 64 #[.slice A0 l0.length c0, .string a1] w fun e w' => e = .returned (.string r) ∧ Below w.heap.size w w' := by
 unfold strings_Join.f at h
 by_cases hh : l0.length ≤ 140737488355328 ∧ (Lib.join (l0.map (·.data.toList)) a1.data.toList).length ≤ 140737488355328
 ·rw [if_pos hh] at h; obtain rfl := Option.some.inj h; obtain ⟨hN, hlen⟩ := hh
  by_cases h0 : l0.length = 0
  ·obtain rfl : l0 = [] := List.length_eq_zero_iff.1 h0; refine (Tryz.strings_Join_none A0 c0 a1 w).mono ?_; rintro e w' ⟨rfl, rfl⟩; exact ⟨rfl, Below.refl _ _⟩
  ·obtain ⟨ad, rfl, hx⟩ := Kd.at_string hr0 0 (by omega) (by omega); have hx' : w.cell? ad = some (.string (rdOf ByteArray.empty l0 0)) := by simpa [Addr.add] using hx
   have hs := cell_spot hx'; have hb : ad.block < w.heap.size := World.block_lt_of_cell? w ad hx'
   have hcells : ∀ (j : Nat) x, l0[j]? = some x → w.cell? ⟨ad.block, ad.off + j, none⟩ = some (.string x) := fun j x hj => by
    have hlt : j < l0.length := (List.getElem?_eq_some_iff.1 hj).1; obtain ⟨ad2, e2, hx2⟩ := Kd.at_string hr0 (j : Int) (by omega) (by omega)
    cases e2
    have e3 : ad.add j = ⟨ad.block, ad.off + j, none⟩ := by
     unfold Addr.add; split
     ·rename_i hz; rw [hz, Nat.add_zero]; exact hs
     ·rfl
    rw [Int.toNat_natCast, e3] at hx2; rw [hx2]; simp [rdOf, List.getD_eq_getElem?_getD, hj]
   have := Tryz.strings_Join ad.block ad.off c0 l0 a1 w hcells hb hN hc0 hlen; rw [← hs] at this; exact this
 ·rw [if_neg hh] at h; exact absurd h (by simp)

/-! ### impl_Join: function 51 -/
def impl_Join.f (l0 : List ByteArray) (a1 : ByteArray) : Option (ByteArray) := (strings_Join.f l0 a1).bind fun t639 => (some t639)
set_option maxHeartbeats 8000000 in
set_option maxRecDepth 100000 in
theorem impl_Join.calls (A0 : Option Addr) (c0 : Nat) (l0 : List ByteArray) (a1 : ByteArray) (r : ByteArray) (w : World) (hr0 : Kd.C Kd.string w A0 l0.length l0) (hc0 : l0.length ≤ c0) (h : impl_Join.f l0 a1 = some r) :
  Calls Tryz.prog 51 #[.slice A0 l0.length c0, .string a1] w fun e w' => e = .returned (.string r) ∧ Below w.heap.size w w' := by
 have HR0 := Aside0.mk hr0; have HC0 := Aside0.mk hc0; clear hr0 hc0; have HB := Aside0.mk (Below.refl w.heap.size w); have H : ((strings_Join.f l0 a1).bind fun t639 => (some t639)) = some r := h; clear h; obtain ⟨t639, A3, H⟩ := zb H; obtain rfl := Option.some.inj H; go_enter Tryz.func51, Tryz.ntmps51; go_wp2_with (first | ((with_reducible refine gate_callee (f := 64) rfl ?_); refine goesL_ (some 7) rfl rfl Tryz.func64 (by kernel_rfl) rfl #[.slice A0 l0.length c0, .string a1] rfl (by (try simp only [za, zc, zn]); first | done | rfl) ?_; (with_reducible refine (strings_Join.calls _ _ l0 a1 t639 _ ?side1 ?side2 A3.out).mono ?_); (case side1 => repeat (first | exact HR0.out | (with_reducible refine Kd.C_alloc ?_ _) | (with_reducible refine Kd.C_drewN ?_ _) | (with_reducible refine Kd.C_drew ?_))); (case side2 => exact HC0.out); rintro e w4 ⟨rfl, hb⟩; refine ⟨_, rfl, ?_⟩; replace HB := Aside0.mk (below_step (zB HB.out) hb); (try clear hb); (try clear hb2); (try clear hk); (try clear hi))); go_ret
 exact ⟨by first | rfl | (simp [*, errW_none, errW_some] <;> rfl), zB HB.out⟩

/-! ### impl_ListText: function 30 -/
def impl_ListText.l0 : Nat → List ByteArray → List Int → Int → Int → Option (ByteArray)
 | 0, _, _, _, _ => none
 | k + 1, x3, x10, x11, x12 => if x12 < x11 then (if 0 ≤ x12 then (if x12 < (x10.length : Int) then ((impl_FormatInt.f (rd x10 x12)).bind fun t644 => (if x3.length < 8796093022208 then (impl_ListText.l0 k (x3 ++ [t644]) x10 x11 (wrap64 (x12 + 1))) else (none))) else (none)) else (none)) else ((impl_Join.f x3 (⟨#[44]⟩ : ByteArray)).bind fun t648 => (some t648))
def impl_ListText.f (k : Nat) (l0 : List Int) : Option (ByteArray) := if (l0.length : Int) = 0 then (some (⟨#[110, 111, 110, 101]⟩ : ByteArray)) else (impl_ListText.l0 k (([] : List ByteArray)) l0 (l0.length : Int) 0)
set_option maxHeartbeats 8000000 in
set_option maxRecDepth 100000 in
theorem impl_ListText.calls (k : Nat) (A0 : Option Addr) (c0 : Nat) (l0 : List Int) (r : ByteArray) (w : World) (hr0 : Kd.C (Kd.int .i64) w A0 l0.length l0) (hc0 : l0.length ≤ c0) (h : impl_ListText.f k l0 = some r) (hT : TabW w) :
  Calls Tryz.prog 30 #[.slice A0 l0.length c0] w fun e w' => e = .returned (.string r) ∧ Below w.heap.size w w' := by
 have HTAB := Aside0.mk hT; clear hT; have HR0 := Aside0.mk hr0; have HC0 := Aside0.mk hc0; clear hr0 hc0; have HB := Aside0.mk (Below.refl w.heap.size w); have H : (if (l0.length : Int) = 0 then (some (⟨#[110, 111, 110, 101]⟩ : ByteArray)) else (impl_ListText.l0 k (([] : List ByteArray)) l0 (l0.length : Int) 0)) = some r := h; clear h
 by_cases c2 : (l0.length : Int) = 0
 ·rw [if_pos c2] at H; have c2b0 : ((l0.length : Int) == 0) = true := beq_iff_eq.mpr c2; have c2b1 : ((l0.length : Int) != 0) = false := bne_eq_false_iff_eq.mpr c2; clear c2; obtain rfl := Option.some.inj H; go_enter Tryz.func30, Tryz.ntmps30; go_wp2; go_ret
  exact ⟨by first | rfl | (simp [*, errW_none, errW_some] <;> rfl), zB HB.out⟩
 ·rw [if_neg c2] at H; have c2b0 : ((l0.length : Int) == 0) = false := beq_eq_false_iff_ne.mpr c2; have c2b1 : ((l0.length : Int) != 0) = true := bne_iff_ne.mpr c2; have c2b2 : ¬ (l0 = []) := fun h_ => c2 (by rw [h_]; rfl)
  obtain ⟨y640, hy640⟩ : ∃ y_ : List ByteArray, y_ = (([] : List ByteArray)) := ⟨_, rfl⟩; replace H : (impl_ListText.l0 k y640 l0 (l0.length : Int) 0) = some r := by first | (rw [hy640]; with_reducible exact H) | (have H2_ := (Option.bind_some _ _).symm.trans H; rw [hy640]; with_reducible exact H2_) | (have H2_ := (Option.bind_some _ _).symm.trans H; with_reducible exact H2_) | with_reducible exact H | (rw [hy640]; exact H) | exact H
  have Ny640 := Aside0.mk hy640; clear hy640; have H' := Aside0.mk H; clear H; go_enter Tryz.func30, Tryz.ntmps30; go_wp2_with (first | ((with_reducible refine gate_dst (N := 9) rfl ?_); refine Kd.R_lit Kd.string _ 9 ?hg (N := 9) ?hd (xs := ([] : List ByteArray)) (inner := []) (ok := fun _ => True) (okp := fun _ => True) ?hr ?hp (fun _ hk => hk) trivial (Below.refl _ _) (Nat.le_refl _) (by simp) ?_; (case hd => rfl); (case hg => rfl); (case hr => first | (go_simp; done) | (go_simp; rfl)); (case hp => exact (Reps.none _ _)); intro v641 w3 ho4 hb hg_ hnew_; clear hg_ hnew_; (first | rw [← Ny640.out] at ho4 | (simp only [Int.reduceToNat] at ho4; rw [← Ny640.out] at ho4)); have HO642 := Aside0.mk (Kd.R_lower ho4 (zS HB.out)); replace HB := Aside0.mk (below_step (zB HB.out) hb); clear hb ho4)); go_loopg [3, 12] k (fun kq v3 v12 w' => ∃ (x3_1 : List ByteArray) (x12_1 : Int), v12 = .int .i64 x12_1 ∧ Aside0 (impl_ListText.l0 kq x3_1 l0 (l0.length : Int) x12_1 = some r) ∧ Aside0 (kq ≤ k) ∧ Aside0 (Kd.R Kd.string 9 w' w.heap.size (fun _ => True) v3 x3_1) ∧ Aside0 (Below w.heap.size w w'))
  case atStart => exact ⟨(y640), (0), (by first | rfl | (simp; done) | (simp [*]; done)), H', ⟨Nat.le_refl _⟩, ⟨zR HO642.out⟩, ⟨zB HB.out⟩⟩
  case round =>
   clear H'
   try clear c2 c2b0 c2b1 c2b2
   obtain ⟨x3_1, x12_1, rfl, HA, HK1, HO_3, HB⟩ := hrel
   cases gk with
   | zero => exact absurd HA.out (by simp [impl_ListText.l0])
   | succ k1 =>
    have H := HA.out; clear HA; simp only [impl_ListText.l0] at H
    by_cases c5 : x12_1 < (l0.length : Int)
    ·rw [if_pos c5] at H; have c5b0 : decide (x12_1 < (l0.length : Int)) = true := decide_eq_true c5; clear c5; obtain ⟨c6, H⟩ := zi H; have c6b0 : decide (0 ≤ x12_1) = true := decide_eq_true c6; clear c6; obtain ⟨c7, H⟩ := zi H; have c7b0 : decide (x12_1 < (l0.length : Int)) = true := decide_eq_true c7; clear c7; obtain ⟨t644, A8, H⟩ := zb H; obtain ⟨c9, H⟩ := zi H; have LMc9 := Aside0.mk c9; clear c9; obtain ⟨y645, Ny645⟩ : ∃ y_ : List ByteArray, Aside0 (y_ = (x3_1 ++ [t644])) := ⟨_, ⟨rfl⟩⟩; (try rw [Option.bind_some] at H); (try rw [← Ny645.out] at H); have H' := Aside0.mk H; clear H; have p643 : 0 ≤ (x12_1 : Int) := of_decide_eq_true (by assumption); have q643 : x12_1 < (l0.length : Int) := of_decide_eq_true (by assumption); obtain ⟨ad643, e643, hx643_0⟩ := Kd.at_int HR0.out x12_1 p643 q643
     cases e643; (try replace hx643_0 := (HB.out.cell (World.block_lt_of_cell? w _ hx643_0)).trans hx643_0); replace p643 := eq_true p643; replace q643 := eq_true q643; go_wp2_with (first | ((with_reducible refine gate_callee (f := 50) rfl ?_); refine goesL_ (some 18) rfl rfl Tryz.func50 (by kernel_rfl) rfl #[.int .i64 (rd l0 x12_1)] rfl (by (try simp only [za, zc, zn]); first | done | rfl) ?_; (with_reducible refine (impl_FormatInt.calls (rd l0 x12_1) t644 _ A8.out ?sideT).mono ?_); (case sideT => exact HTAB.out.zb (zB HB.out)); rintro e w10 ⟨rfl, hb⟩; refine ⟨_, rfl, ?_⟩; replace HO_3 := Aside0.mk (Kd.R_below (zR HO_3.out) hb); replace HB := Aside0.mk (below_step (zB HB.out) hb); (try clear hb); (try clear hb2); (try clear hk); (try clear hi)) | ((with_reducible refine gate_builtin (b := .append) (xs := #[.tmp 16, .tmp 19]) rfl ?_); at_builtin; refine Kd.R_append Kd.string (w0 := w) w.heap.size rfl (.tmp 16) (.tmp 19) 52 9 (.string ⟨#[]⟩) 16 rfl Tryz.underlying52 info9 rfl (by decide) (by omega) u3 x3_1 t644 [.string t644] (fun _ => True) (fun _ => False) rfl rfl ?aP (fun _ hk => hk.elim) ?aF ?aO ?aB ?aS ?aL ?_; (case aP => exact rfl); (case aB => exact (zB HB.out)); (case aF => exact (fun _ _ => trivial)); (case aO => exact (zR HO_3.out)); (case aS => exact (zS HB.out)); (case aL => have := LMc9.out; omega); intro v646 w11 ho hb hg hat; rw [← Ny645.out] at ho; replace HB := Aside0.mk (hb); have HO647 := Aside0.mk (ho); clear HO_3; clear ho hb hg hat))
     go_roundg k1
     case measure => have := HK1.out; omega
     case rel => exact ⟨(y645), (wrap64 (x12_1 + 1)), (by first | rfl | (simp; done) | (simp [*]; done)), H', ⟨by have := HK1.out; omega⟩, ⟨zR HO647.out⟩, ⟨zB HB.out⟩⟩
    ·rw [if_neg c5] at H; have c5b0 : decide (x12_1 < (l0.length : Int)) = false := decide_eq_false c5; clear c5; obtain ⟨t648, A12, H⟩ := zb H; obtain rfl := Option.some.inj H; obtain ⟨Ao13, co13, eo13⟩ := Kd.R_slice HO_3.out; subst eo13; go_wp2_with (first | ((with_reducible refine gate_callee (f := 51) rfl ?_); refine goesL_ (some 23) rfl rfl Tryz.func51 (by kernel_rfl) rfl #[.slice Ao13 x3_1.length co13, .string (⟨#[44]⟩ : ByteArray)] rfl (by (try simp only [za, zc, zn]); first | done | rfl) ?_; (with_reducible refine (impl_Join.calls _ _ x3_1 (⟨#[44]⟩ : ByteArray) t648 _ ?side1 ?side2 A12.out).mono ?_); (case side1 => repeat (first | exact (Kd.R_reads' HO_3.out).2.2 | (with_reducible refine Kd.C_alloc ?_ _) | (with_reducible refine Kd.C_drewN ?_ _) | (with_reducible refine Kd.C_drew ?_))); (case side2 => exact (Kd.R_reads' HO_3.out).2.1); rintro e w14 ⟨rfl, hb⟩; refine ⟨_, rfl, ?_⟩; replace HO_3 := Aside0.mk (Kd.R_below (zR HO_3.out) hb); replace HB := Aside0.mk (below_step (zB HB.out) hb); (try clear hb); (try clear hb2); (try clear hk); (try clear hi))); go_ret
     exact ⟨by first | rfl | (simp [*, errW_none, errW_some] <;> rfl), zB HB.out⟩

end Go.Proofs.YthednemidaegkaaGreatDoor.PFnLists
