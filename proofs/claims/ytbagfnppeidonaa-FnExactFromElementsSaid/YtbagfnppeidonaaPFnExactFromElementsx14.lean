-- Written by a program of this session (a turned copy of the kit's print; see NOTES.md).
import Derived.Test.YtbagfnppeidonaaPFnExactFromElementsx0
import Derived.Test.YtbagfnppeidonaaPFnExactFromElementsx10
import Derived.Test.YtbagfnppeidonaaPFnExactFromElementsx11
namespace Go.Proofs.Ytbagfnppeidonaa.PFnExactFromElements
open Go.RowKit Go.Proofs.YtbagfnppeidonaaW.PrintWords Go.Proofs.YtbagfnppeidonaaW.PrintLast Go.Proofs.YtbagfnppeidonaaW.PrintMore
attribute [local go_sem] max2_int min2_int max_two min_two max_three min_three max_four min_four   -- for this text's walks alone
set_option linter.unusedVariables false
set_option linter.unusedSimpArgs false

/-! ### impl_gapList: function 132 -/
def impl_gapList.f (k : Nat) (l0 : List Int) : Option (Bool) := (impl_IsAscending.f k l0).bind fun t407 => (if t407 = true then ((impl_allWithin.f k l0 1 199).bind fun t408 => (some t408)) else (some false))
theorem impl_gapList.mono : ∀ a0 k, LeO (impl_gapList.f k a0) (impl_gapList.f (k + 1) a0) := by
 intro a0 k
 unfold impl_gapList.f
 repeat' first
   | (with_reducible first | exact impl_IsAscending.mono _ _ | exact impl_allWithin.mono _ _ _ _ | exact LeO.refl _ | exact LeO.none _ | refine LeO.ite ?_ ?_ | refine LeO.bind ?_ (fun _ => ?_))
   | exact LeO.none _
   | refine LeO.ite ?_ ?_
   | refine LeO.bind ?_ (fun _ => ?_)
set_option maxHeartbeats 8000000 in
set_option maxRecDepth 100000 in
theorem impl_gapList.calls (k : Nat) (A0 : Option Addr) (c0 : Nat) (l0 : List Int) (r : Bool) (w : World) (hr0 : Kd.C (Kd.int .i64) w A0 l0.length l0) (hc0 : l0.length ≤ c0) (h : impl_gapList.f k l0 = some r) :
  Calls Try.prog 132 #[.slice A0 l0.length c0] w fun e w' => e = .returned (.bool r) ∧ Below w.heap.size w w' := by
 have HR0 := Aside0.mk hr0
 have HC0 := Aside0.mk hc0
 clear hr0 hc0
 have HB := Aside0.mk (Below.refl w.heap.size w)
 have H : ((impl_IsAscending.f k l0).bind fun t407 => (if t407 = true then ((impl_allWithin.f k l0 1 199).bind fun t408 => (some t408)) else (some false))) = some r := h
 clear h
 obtain ⟨t407, A2, H⟩ := zb H
 by_cases c3 : t407 = true
 ·subst c3
  rw [zT] at H
  obtain ⟨t408, A4, H⟩ := zb H
  obtain rfl := Option.some.inj H
  go_enter Try.func132, Try.ntmps132
  go_wp2_with (first | ((with_reducible refine gate_callee (f := 140) rfl ?_); refine goesL_ (some 4) rfl rfl Try.func140 (by kernel_rfl) rfl #[.slice A0 l0.length c0] rfl (by (try simp only [List.map_toArray, List.map_cons, List.map_nil]); first | done | rfl | (simp only [List.length_drop, List.length_take]; rfl)) ?_; (with_reducible refine (impl_IsAscending.calls k _ _ l0 true _ ?side1 ?side2 A2.out).mono ?_); (case side1 => repeat (first | exact HR0.out | (with_reducible refine Kd.C_alloc ?_ _) | (with_reducible refine Kd.C_drewN ?_ _) | (with_reducible refine Kd.C_drew ?_))); (case side2 => exact HC0.out); rintro e w' ⟨rfl, ⟨nd, rfl⟩⟩; refine ⟨_, rfl, ?_⟩) | (go_at_call 115; (with_reducible refine (impl_allWithin.calls k _ _ l0 1 199 t408 _ ?side1 ?side2 A4.out).mono ?_); (case side1 => repeat (first | exact HR0.out | (with_reducible refine Kd.C_alloc ?_ _) | (with_reducible refine Kd.C_drewN ?_ _) | (with_reducible refine Kd.C_drew ?_))); (case side2 => exact HC0.out); rintro e w5 ⟨rfl, hb⟩; have n0_ := Aside0.mk (below_step (zB HB.out) hb); clear HB; have HB := n0_; clear n0_; (try clear hb); (try clear hb2); (try clear hk); (try clear hi)))
  go_ret
  exact ⟨by first | rfl | (simp [errW_none, errW_some] <;> rfl) | (simp [*, errW_none, errW_some] <;> rfl), zB HB.out⟩
 ·replace c3 := Bool.eq_false_iff.mpr c3
  subst c3
  rw [zF] at H
  obtain rfl := Option.some.inj H
  go_enter Try.func132, Try.ntmps132
  go_wp2_with (first | ((with_reducible refine gate_callee (f := 140) rfl ?_); refine goesL_ (some 4) rfl rfl Try.func140 (by kernel_rfl) rfl #[.slice A0 l0.length c0] rfl (by (try simp only [List.map_toArray, List.map_cons, List.map_nil]); first | done | rfl | (simp only [List.length_drop, List.length_take]; rfl)) ?_; (with_reducible refine (impl_IsAscending.calls k _ _ l0 false _ ?side1 ?side2 A2.out).mono ?_); (case side1 => repeat (first | exact HR0.out | (with_reducible refine Kd.C_alloc ?_ _) | (with_reducible refine Kd.C_drewN ?_ _) | (with_reducible refine Kd.C_drew ?_))); (case side2 => exact HC0.out); rintro e w' ⟨rfl, ⟨nd, rfl⟩⟩; refine ⟨_, rfl, ?_⟩))
  go_ret
  exact ⟨by first | rfl | (simp [errW_none, errW_some] <;> rfl) | (simp [*, errW_none, errW_some] <;> rfl), zB HB.out⟩

/-! ### impl_GapClash: function 64 -/
mutual
def impl_GapClash.j0 : Nat → List Int → Bool → Option (Int × Int × Bool)
 | 0, _, _ => none
 | k + 1, x0, x17 => if x17 = true then (some (0, 0, false)) else (if 201 ≤ 281474976710656 then (impl_GapClash.l0 k x0 (List.replicate 201 false) x0 (x0.length : Int) 0) else (none))
def impl_GapClash.l0 : Nat → List Int → List Bool → List Int → Int → Int → Option (Int × Int × Bool)
 | 0, _, _, _, _, _ => none
 | k + 1, x0, x4, x20, x21, x22 => if x22 < x21 then (if 0 ≤ x22 then (if x22 < (x20.length : Int) then (if 0 ≤ (rd x20 x22) then (if (rd x20 x22) < (x4.length : Int) then (impl_GapClash.l0 k x0 (x4.set ((rd x20 x22) : Int).toNat true) x20 x21 (wrap64 (x22 + 1))) else (none)) else (none)) else (none)) else (none)) else (if 0 ≤ (wrap64 ((x0.length : Int) - 1)) then (if (wrap64 ((x0.length : Int) - 1)) < (x0.length : Int) then (impl_GapClash.l1 k x4 (rd x0 (wrap64 ((x0.length : Int) - 1))) 1) else (none)) else (none))
def impl_GapClash.l1 : Nat → List Bool → Int → Int → Option (Int × Int × Bool)
 | 0, _, _, _ => none
 | k + 1, x4, x7, x8 => if x8 ≤ x7 then (impl_GapClash.l2 k x4 x7 x8 x8) else (some (0, 0, false))
def impl_GapClash.l2 : Nat → List Bool → Int → Int → Int → Option (Int × Int × Bool)
 | 0, _, _, _, _ => none
 | k + 1, x4, x7, x8, x9 => if (wrap64 (x8 + x9)) ≤ x7 then (if 0 ≤ x8 then (if x8 < (x4.length : Int) then (if rdOf false x4 x8 = true then (impl_GapClash.l2 k x4 x7 x8 (wrap64 (x9 + 1))) else (if 0 ≤ x9 then (if x9 < (x4.length : Int) then (if rdOf false x4 x9 = true then (impl_GapClash.l2 k x4 x7 x8 (wrap64 (x9 + 1))) else (if 0 ≤ (wrap64 (x8 + x9)) then (if (wrap64 (x8 + x9)) < (x4.length : Int) then (if rdOf false x4 (wrap64 (x8 + x9)) = true then (some (x8, x9, true)) else (impl_GapClash.l2 k x4 x7 x8 (wrap64 (x9 + 1)))) else (none)) else (none))) else (none)) else (none))) else (none)) else (none)) else (impl_GapClash.l1 k x4 x7 (wrap64 (x8 + 1)))
end
def impl_GapClash.f (k : Nat) (l0 : List Int) : Option (Int × Int × Bool) := (impl_gapList.f k l0).bind fun t410 => (if t410 = true then (impl_GapClash.j0 k l0 ((l0.length : Int) == 0)) else (impl_GapClash.j0 k l0 true))
theorem impl_GapClash.mono_l : ∀ k, (∀ y0 y1, LeO (impl_GapClash.j0 k y0 y1) (impl_GapClash.j0 (k + 1) y0 y1)) ∧ (∀ y0 y1 y2 y3 y4, LeO (impl_GapClash.l0 k y0 y1 y2 y3 y4) (impl_GapClash.l0 (k + 1) y0 y1 y2 y3 y4)) ∧ (∀ y0 y1 y2, LeO (impl_GapClash.l1 k y0 y1 y2) (impl_GapClash.l1 (k + 1) y0 y1 y2)) ∧ (∀ y0 y1 y2 y3, LeO (impl_GapClash.l2 k y0 y1 y2 y3) (impl_GapClash.l2 (k + 1) y0 y1 y2 y3))
 | 0 => ⟨fun _ _ r h => by simp [impl_GapClash.j0] at h, fun _ _ _ _ _ r h => by simp [impl_GapClash.l0] at h, fun _ _ _ r h => by simp [impl_GapClash.l1] at h, fun _ _ _ _ r h => by simp [impl_GapClash.l2] at h⟩
 | k + 1 => by
  obtain ⟨ih0, ih1, ih2, ih3⟩ := impl_GapClash.mono_l k
  refine ⟨?_, ?_, ?_, ?_⟩
  ·intro y0 y1
   unfold impl_GapClash.j0
   repeat' first
   | (with_reducible first | exact ih0 _ _ | exact ih1 _ _ _ _ _ | exact ih2 _ _ _ | exact ih3 _ _ _ _ | exact impl_gapList.mono _ _ | exact LeO.refl _ | exact LeO.none _ | refine LeO.ite ?_ ?_ | refine LeO.bind ?_ (fun _ => ?_))
   | exact LeO.none _
   | refine LeO.ite ?_ ?_
   | refine LeO.bind ?_ (fun _ => ?_)
  ·intro y0 y1 y2 y3 y4
   unfold impl_GapClash.l0
   repeat' first
   | (with_reducible first | exact ih0 _ _ | exact ih1 _ _ _ _ _ | exact ih2 _ _ _ | exact ih3 _ _ _ _ | exact impl_gapList.mono _ _ | exact LeO.refl _ | exact LeO.none _ | refine LeO.ite ?_ ?_ | refine LeO.bind ?_ (fun _ => ?_))
   | exact LeO.none _
   | refine LeO.ite ?_ ?_
   | refine LeO.bind ?_ (fun _ => ?_)
  ·intro y0 y1 y2
   unfold impl_GapClash.l1
   repeat' first
   | (with_reducible first | exact ih0 _ _ | exact ih1 _ _ _ _ _ | exact ih2 _ _ _ | exact ih3 _ _ _ _ | exact impl_gapList.mono _ _ | exact LeO.refl _ | exact LeO.none _ | refine LeO.ite ?_ ?_ | refine LeO.bind ?_ (fun _ => ?_))
   | exact LeO.none _
   | refine LeO.ite ?_ ?_
   | refine LeO.bind ?_ (fun _ => ?_)
  ·intro y0 y1 y2 y3
   unfold impl_GapClash.l2
   repeat' first
   | (with_reducible first | exact ih0 _ _ | exact ih1 _ _ _ _ _ | exact ih2 _ _ _ | exact ih3 _ _ _ _ | exact impl_gapList.mono _ _ | exact LeO.refl _ | exact LeO.none _ | refine LeO.ite ?_ ?_ | refine LeO.bind ?_ (fun _ => ?_))
   | exact LeO.none _
   | refine LeO.ite ?_ ?_
   | refine LeO.bind ?_ (fun _ => ?_)
theorem impl_GapClash.mono : ∀ a0 k, LeO (impl_GapClash.f k a0) (impl_GapClash.f (k + 1) a0) := by
 intro a0 k
 obtain ⟨ih0, ih1, ih2, ih3⟩ := impl_GapClash.mono_l k
 unfold impl_GapClash.f
 repeat' first
   | (with_reducible first | exact ih0 _ _ | exact ih1 _ _ _ _ _ | exact ih2 _ _ _ | exact ih3 _ _ _ _ | exact impl_gapList.mono _ _ | exact LeO.refl _ | exact LeO.none _ | refine LeO.ite ?_ ?_ | refine LeO.bind ?_ (fun _ => ?_))
   | exact LeO.none _
   | refine LeO.ite ?_ ?_
   | refine LeO.bind ?_ (fun _ => ?_)
set_option maxHeartbeats 8000000 in
set_option maxRecDepth 100000 in
theorem impl_GapClash.calls (k : Nat) (A0 : Option Addr) (c0 : Nat) (l0 : List Int) (r1 : Int) (r2 : Int) (r3 : Bool) (w : World) (hr0 : Kd.C (Kd.int .i64) w A0 l0.length l0) (hc0 : l0.length ≤ c0) (h : impl_GapClash.f k l0 = some (r1, r2, r3)) :
  Calls Try.prog 64 #[.slice A0 l0.length c0] w fun e w' => e = .returned (.tuple #[.agg #[.int .i64 r1, .int .i64 r2], .bool r3]) ∧ Below w.heap.size w w' := by
 have hu56 := Try.underlying56
 have HR0 := Aside0.mk hr0
 have HC0 := Aside0.mk hc0
 clear hr0 hc0
 have HB := Aside0.mk (Below.refl w.heap.size w)
 have H : ((impl_gapList.f k l0).bind fun t410 => (if t410 = true then (impl_GapClash.j0 k l0 ((l0.length : Int) == 0)) else (impl_GapClash.j0 k l0 true))) = some (r1, r2, r3) := h
 clear h
 have HC2 := Aside0.mk H
 clear H
 go_enter Try.func64, Try.ntmps64
 go_upto_region 1 with (first | ((with_reducible refine gate_dst (N := 2) rfl ?_); refine box_event ?hg (N := 2) ?hd (cs := #[.int .i64 0, .int .i64 0]) (t := 56) ?hr ?_; (case hd => rfl); (case hg => rfl); (case hr => first | (go_simp; done) | (go_simp; rfl)); intro gb409 hg w3 hbox hb; have n0_ := Aside0.mk (below_step (zB HB.out) hb); have n1_ := Aside0.mk (hbox); have n2_ := Aside0.mk ((by rw [hg]; exact (below_size (zB HB.out)) : w.heap.size ≤ gb409)); have n3_ := Aside0.mk ((by rw [hg]; exact (below_size (zB HB.out)) : w.heap.size ≤ gb409)); clear HB; have HB := n0_; have BK409 := n1_; have GW409 := n2_; have GE409 := n3_; clear n0_ n1_ n2_ n3_; clear hb hbox hg))
 (try simp only [Act.put, List.setIfInBounds_toArray, List.set_cons_zero, List.set_cons_succ])
 go_cut [17] (fun v17 wc => ∃ (kq : Nat) (x17_1 : Bool), v17 = .bool x17_1 ∧ Aside0 (impl_GapClash.j0 kq l0 x17_1 = some (r1, r2, r3)) ∧ Aside0 (kq ≤ k) ∧ Aside0 (wc.heap[gb409]? = some (.cells #[.int .i64 0, .int .i64 0] 56 (0, 0))) ∧ Aside0 (Below w.heap.size w wc))
 case first =>
  have H := HC2.out
  clear HC2
  obtain ⟨t410, A4, H⟩ := zb H
  by_cases c5 : t410 = true
  ·subst c5
   rw [zT] at H
   have H' := Aside0.mk H
   clear H
   go_wp2_with (first | ((with_reducible refine gate_callee (f := 132) rfl ?_); refine goesL_ (some 11) rfl rfl Try.func132 (by kernel_rfl) rfl #[.slice A0 l0.length c0] rfl (by (try simp only [List.map_toArray, List.map_cons, List.map_nil]); first | done | rfl | (simp only [List.length_drop, List.length_take]; rfl)) ?_; (with_reducible refine (impl_gapList.calls k _ _ l0 true _ ?side1 ?side2 A4.out).mono ?_); (case side1 => exact zC (Kd.C_below HR0.out HB.out)); (case side2 => exact HC0.out); rintro e w6 ⟨rfl, hb⟩; refine ⟨_, rfl, ?_⟩; have n0_ := Aside0.mk (blk_below (g := gb409) (o := .cells #[.int .i64 0, .int .i64 0] 56 (0, 0)) (zk BK409.out) hb); have n1_ := Aside0.mk (below_step (by repeat (first | (with_reducible first | exact HB.out | apply below_alloc | apply pw_below_drewN | apply below_drew1 | refine below_set ?_ GE409.out) | exact HB.out)) hb); clear BK409; clear HB; have BK409 := n0_; have HB := n1_; clear n0_ n1_; (try clear hb); (try clear hb2); (try clear hk); (try clear hi)))
   go_meet
   case rel => exact ⟨_, (((l0.length : Int) == 0)), (by first | rfl | (simp; done) | (simp [*]; done)), H', ⟨by first | omega | exact Nat.le_refl _⟩, ⟨zk BK409.out⟩, ⟨by repeat (first | (with_reducible first | exact HB.out | apply below_alloc | apply pw_below_drewN | apply below_drew1 | refine below_set ?_ GE409.out) | exact HB.out)⟩⟩
  ·replace c5 := Bool.eq_false_iff.mpr c5
   subst c5
   rw [zF] at H
   have H' := Aside0.mk H
   clear H
   go_wp2_with (first | ((with_reducible refine gate_callee (f := 132) rfl ?_); refine goesL_ (some 11) rfl rfl Try.func132 (by kernel_rfl) rfl #[.slice A0 l0.length c0] rfl (by (try simp only [List.map_toArray, List.map_cons, List.map_nil]); first | done | rfl | (simp only [List.length_drop, List.length_take]; rfl)) ?_; (with_reducible refine (impl_gapList.calls k _ _ l0 false _ ?side1 ?side2 A4.out).mono ?_); (case side1 => exact zC (Kd.C_below HR0.out HB.out)); (case side2 => exact HC0.out); rintro e w7 ⟨rfl, hb⟩; refine ⟨_, rfl, ?_⟩; have n0_ := Aside0.mk (blk_below (g := gb409) (o := .cells #[.int .i64 0, .int .i64 0] 56 (0, 0)) (zk BK409.out) hb); have n1_ := Aside0.mk (below_step (by repeat (first | (with_reducible first | exact HB.out | apply below_alloc | apply pw_below_drewN | apply below_drew1 | refine below_set ?_ GE409.out) | exact HB.out)) hb); clear BK409; clear HB; have BK409 := n0_; have HB := n1_; clear n0_ n1_; (try clear hb); (try clear hb2); (try clear hk); (try clear hi)))
   go_meet
   case rel => exact ⟨_, (true), (by first | rfl | (simp; done) | (simp [*]; done)), H', ⟨by first | omega | exact Nat.le_refl _⟩, ⟨zk BK409.out⟩, ⟨by repeat (first | (with_reducible first | exact HB.out | apply below_alloc | apply pw_below_drewN | apply below_drew1 | refine below_set ?_ GE409.out) | exact HB.out)⟩⟩
 case rest =>
  clear HC2
  try clear c1
  try clear p2
  try clear c5
  try clear c6
  obtain ⟨kq, x17_1, rfl, HA, HJ1, BK409, HB⟩ := hcut
  cases kq with
  | zero => exact absurd HA.out (by simp [impl_GapClash.j0])
  | succ kj1 =>
   have H := HA.out
   clear HA
   simp only [impl_GapClash.j0] at H
   by_cases c8 : x17_1 = true
   ·subst c8
    rw [zT] at H
    simp only [Option.some.injEq, Prod.mk.injEq] at H
    obtain ⟨rfl, rfl, rfl⟩ := H
    have hcz9_0 : wc.cell? ⟨gb409, 0, none⟩ = some (.int .i64 0) := (blk_cell BK409.out 0).trans rfl
    have hcz9_1 : wc.cell? ⟨gb409, 1, none⟩ = some (.int .i64 0) := (blk_cell BK409.out 1).trans rfl
    have hfz9_0 := blk_frozen BK409.out 0
    have hfz9_1 := blk_frozen BK409.out 1
    go_wp2
    refine bodyPost_ret (results_ct rfl _ _ gb409 56 #[.int .i64 0, .int .i64 0] (0, 0) _ rfl (by (with_reducible repeat (first | refine blk_drewN ?_ _ | refine blk_drew ?_ | refine blk_alloc ?_ _)); refine blk_put (cs := #[.int .i64 0, .int .i64 0]) ?_ 1 _ rfl; (with_reducible repeat (first | refine blk_drewN ?_ _ | refine blk_drew ?_ | refine blk_alloc ?_ _)); refine blk_put (cs := #[.int .i64 0, .int .i64 0]) ?_ 0 _ rfl; (with_reducible repeat (first | refine blk_drewN ?_ _ | refine blk_drew ?_ | refine blk_alloc ?_ _)); exact BK409.out) Try.underlying56 rfl (by kernel_rfl)) rfl ?_
    exact ⟨by first | rfl | (simp [errW_none, errW_some] <;> rfl) | (simp [*, errW_none, errW_some] <;> rfl), by repeat (first | (with_reducible first | exact HB.out | apply below_alloc | apply pw_below_drewN | apply below_drew1 | refine below_set ?_ GE409.out) | exact HB.out)⟩
   ·replace c8 := Bool.eq_false_iff.mpr c8
    subst c8
    rw [zF] at H
    by_cases c10 : 201 ≤ 281474976710656
    ·rw [if_pos c10] at H
     have c10b0 := eq_true c10
     have c10b1 : decide (201 ≤ 281474976710656) = true := decide_eq_true c10
     clear c10
     obtain ⟨y411, hy411⟩ : ∃ y_ : List Bool, y_ = (List.replicate 201 false) := ⟨_, rfl⟩
     replace H : (impl_GapClash.l0 kj1 l0 y411 l0 (l0.length : Int) 0) = some (r1, r2, r3) := by first | (rw [hy411]; with_reducible exact H) | (have H2_ := (Option.bind_some _ _).symm.trans H; rw [hy411]; with_reducible exact H2_) | (have H2_ := (Option.bind_some _ _).symm.trans H; with_reducible exact H2_) | with_reducible exact H | (rw [hy411]; exact H) | exact H
     have Ny411 := Aside0.mk hy411
     clear hy411
     have H' := Aside0.mk H
     clear H
     go_wp2_with (first | ((with_reducible refine gate_dst (N := 19) rfl ?_); refine Kd.R_make Kd.bool _ 4 rfl (N := 19) rfl 71 _ _ rfl 201 rfl rfl Try.underlying71 (.bool false) 1 info4 rfl (by decide) (by omega) false (ok := fun _ => True) (okp := fun _ => True) rfl (fun _ hk => hk) trivial (by omega) (by omega) (Below.refl _ _) (Nat.le_refl _) ?_; intro v412 w11 ho12 hb hg_ hnew_; clear hg_ hnew_; (first | rw [← Ny411.out] at ho12 | (simp only [Int.reduceToNat] at ho12; rw [← Ny411.out] at ho12)); have n0_ := Aside0.mk (Kd.R_lower ho12 (below_size (by repeat (first | (with_reducible first | exact HB.out | apply below_alloc | apply pw_below_drewN | apply below_drew1 | refine below_set ?_ GE409.out) | exact HB.out)))); have n1_ := Aside0.mk (blk_below (g := gb409) (o := .cells #[.int .i64 0, .int .i64 0] 56 (0, 0)) (zk BK409.out) hb); have n2_ := Aside0.mk (below_step (by repeat (first | (with_reducible first | exact HB.out | apply below_alloc | apply pw_below_drewN | apply below_drew1 | refine below_set ?_ GE409.out) | exact HB.out)) hb); clear BK409; clear HB; have HO413 := n0_; have BK409 := n1_; have HB := n2_; clear n0_ n1_ n2_; clear hb ho12))
     go_loopg [22] kj1 (fun kq v22 w' => ∃ (x4_2 : List Bool) (x22_2 : Int), v22 = .int .i64 x22_2 ∧ Aside0 (impl_GapClash.l0 kq l0 x4_2 l0 (l0.length : Int) x22_2 = some (r1, r2, r3)) ∧ Aside0 (kq ≤ kj1) ∧ Aside0 (Kd.R Kd.bool 4 w' w.heap.size (fun _ => True) v412 x4_2) ∧ Aside0 (w'.heap[gb409]? = some (.cells #[.int .i64 0, .int .i64 0] 56 (0, 0))) ∧ Aside0 (Below w.heap.size w w'))
     case atStart => exact ⟨(y411), (0), (by first | rfl | (simp; done) | (simp [*]; done)), H', ⟨Nat.le_refl _⟩, ⟨zR HO413.out⟩, ⟨zk BK409.out⟩, ⟨by repeat (first | (with_reducible first | exact HB.out | apply below_alloc | apply pw_below_drewN | apply below_drew1 | refine below_set ?_ GE409.out) | exact HB.out)⟩⟩
     case round =>
      clear H'
      try clear c1
      try clear p2
      try clear c5
      try clear c6
      try clear c8
      try clear c10
      try clear c10b0
      try clear c10b1
      try clear hcz9_0
      try clear hcz9_1
      try clear hfz9_0
      try clear hfz9_1
      try clear p2
      obtain ⟨x4_2, x22_2, rfl, HA, HK2, HO_4, BK409, HB⟩ := hrel
      cases gk with
      | zero => exact absurd HA.out (by simp [impl_GapClash.l0])
      | succ k2 =>
       have H := HA.out
       clear HA
       simp only [impl_GapClash.l0] at H
       by_cases c13 : x22_2 < (l0.length : Int)
       ·rw [if_pos c13] at H
        have c13b0 : decide (x22_2 < (l0.length : Int)) = true := decide_eq_true c13
        clear c13
        obtain ⟨c14, H⟩ := zi H
        have c14b0 : decide (0 ≤ x22_2) = true := decide_eq_true c14
        clear c14
        obtain ⟨c15, H⟩ := zi H
        have c15b0 : decide (x22_2 < (l0.length : Int)) = true := decide_eq_true c15
        clear c15
        obtain ⟨c16, H⟩ := zi H
        have c16b0 : decide (0 ≤ (rd l0 x22_2)) = true := decide_eq_true c16
        clear c16
        obtain ⟨c17, H⟩ := zi H
        have c17b0 : decide ((rd l0 x22_2) < (x4_2.length : Int)) = true := decide_eq_true c17
        clear c17
        obtain ⟨y415, hy415⟩ : ∃ y_ : List Bool, y_ = (x4_2.set ((rd l0 x22_2) : Int).toNat true) := ⟨_, rfl⟩
        replace H : (impl_GapClash.l0 k2 l0 y415 l0 (l0.length : Int) (wrap64 (x22_2 + 1))) = some (r1, r2, r3) := by first | (rw [hy415]; with_reducible exact H) | (have H2_ := (Option.bind_some _ _).symm.trans H; rw [hy415]; with_reducible exact H2_) | (have H2_ := (Option.bind_some _ _).symm.trans H; with_reducible exact H2_) | with_reducible exact H | (rw [hy415]; exact H) | exact H
        have Ny415 := Aside0.mk hy415
        clear hy415
        have H' := Aside0.mk H
        clear H
        have p414 : 0 ≤ (x22_2 : Int) := of_decide_eq_true (by assumption)
        have q414 : x22_2 < (l0.length : Int) := of_decide_eq_true (by assumption)
        obtain ⟨ad414, e414, hx414_0⟩ := Kd.at_int HR0.out x22_2 p414 q414
        cases e414
        (try replace hx414_0 := (HB.out.cell (World.block_lt_of_cell? w _ hx414_0)).trans hx414_0)
        replace p414 := eq_true p414
        replace q414 := eq_true q414
        have p18 : 0 ≤ ((rd l0 x22_2) : Int) := of_decide_eq_true (by assumption)
        have q18 : ((rd l0 x22_2) : Int) < ((x4_2.length : Int) : Int) := of_decide_eq_true (by assumption)
        obtain ⟨go18, co18, eo18, gb18, gl18, cl18, HG18⟩ := Kd.R_form HO_4.out (by omega)
        (first | cases eo18 | (injection eo18 with ea_ en_ ec_; (first | subst ea_ | (injection ea_ with ea_; subst ea_)); subst ec_; clear en_))
        have GB18 := Aside0.mk gb18
        have GG18 := Aside0.mk HG18
        clear gb18 gl18 HG18
        obtain ⟨hx18_0, hf18_0⟩ := Kd.R_celln false HO_4.out ((rd l0 x22_2) : Int) p18 q18
        replace p18 := eq_true p18
        replace q18 := eq_true q18
        have HP19 := Kd.R_putg HO_4.out ((rd l0 x22_2) : Int) true
        go_wp2_with (first | ((with_reducible refine gate_store (t := 4) (p := 28) rfl ?_); refine store_event (t := 4) (p := 28) (v := ?vo_w20) (w1 := (wr.setCell ⟨go18, ((rd l0 x22_2) : Int).toNat, none⟩ (.bool true))) ?hg ?ho ?hn ?hr ?_; (case ho => rfl); (case hg => rfl); (case hn => rfl); (case hr => first | (go_simp; done) | (go_simp; rfl)); intro w20 hw; have hg : wr.grownBy w20 (some go18) := (by rw [hw]; exact HP19.2); have hp_ : Kd.R Kd.bool 4 w20 w.heap.size (fun _ => True) (.slice (some ⟨go18, 0, none⟩) x4_2.length co18) y415 := (by rw [hw, Ny415.out]; exact HP19.1); clear HP19; have n0_ := Aside0.mk (hp_); have n1_ := Aside0.mk (blk_grown (g := gb409) (o := .cells #[.int .i64 0, .int .i64 0] 56 (0, 0)) (zk BK409.out) hg (Kd.R_ne HO_4.out BK409.out (by decide))); have n2_ := Aside0.mk ((by rw [hw]; exact below_set (HB.out) GB18.out : Below w.heap.size w w20)); clear HO_4; clear BK409; clear HB; have HO_4 := n0_; have BK409 := n1_; have HB := n2_; clear n0_ n1_ n2_; clear hg hw hp_))
        go_roundg k2
        case measure => have := HJ1.out; have := HK2.out; omega
        case rel => exact ⟨(y415), (wrap64 (x22_2 + 1)), (by first | rfl | (simp; done) | (simp [*]; done)), H', ⟨by have := HJ1.out; have := HK2.out; omega⟩, ⟨zR HO_4.out⟩, ⟨zk BK409.out⟩, ⟨by repeat (first | (with_reducible first | exact HB.out | apply below_alloc | apply pw_below_drewN | apply below_drew1 | refine below_set ?_ GE409.out) | exact HB.out)⟩⟩
       ·rw [if_neg c13] at H
        have c13b0 : decide (x22_2 < (l0.length : Int)) = false := decide_eq_false c13
        clear c13
        obtain ⟨ji21, hji21⟩ : ∃ j_ : Int, (wrap64 ((l0.length : Int) - 1)) = j_ := ⟨_, rfl⟩
        replace H : (if 0 ≤ (ji21) then (if (ji21) < (l0.length : Int) then (impl_GapClash.l1 k2 x4_2 (rd l0 (ji21)) 1) else (none)) else (none)) = some (r1, r2, r3) := by first | (rw [hji21] at H; exact H) | (simp only [hji21] at H ⊢; exact H)
        have hji21w : (IntKind.i64.wrap ((l0.length : Int) - 1)) = ji21 := (i64_w _).trans hji21
        obtain ⟨c22, H⟩ := zi H
        have c22b0 : decide (0 ≤ (ji21)) = true := decide_eq_true c22
        clear c22
        obtain ⟨c23, H⟩ := zi H
        have c23b0 : decide ((ji21) < (l0.length : Int)) = true := decide_eq_true c23
        clear c23
        have H' := Aside0.mk H
        clear H
        have p416 : 0 ≤ ((ji21) : Int) := of_decide_eq_true (by assumption)
        have q416 : (ji21) < (l0.length : Int) := of_decide_eq_true (by assumption)
        obtain ⟨ad416, e416, hx416_0⟩ := Kd.at_int HR0.out (ji21) p416 q416
        cases e416
        (try replace hx416_0 := (HB.out.cell (World.block_lt_of_cell? w _ hx416_0)).trans hx416_0)
        replace p416 := eq_true p416
        replace q416 := eq_true q416
        go_wp2
        go_loopg [8] k2 (fun kq v8 w' => ∃ (x8_3 : Int) (x410000_3 : Int) (x410001_3 : Int), v8 = .int .i64 x8_3 ∧ Aside0 (impl_GapClash.l1 kq x4_2 (rd l0 (ji21)) x8_3 = some (r1, r2, r3)) ∧ Aside0 (kq ≤ k2) ∧ Aside0 (Kd.R Kd.bool 4 w' w.heap.size (fun _ => True) v412 x4_2) ∧ Aside0 (w'.heap[gb409]? = some (.cells #[.int .i64 x410000_3, .int .i64 x410001_3] 56 (0, 0))) ∧ Aside0 (Below w.heap.size w w'))
        case atStart => exact ⟨(1), (0), (0), (by first | rfl | (simp; done) | (simp [*]; done)), H', ⟨Nat.le_refl _⟩, ⟨zR HO_4.out⟩, ⟨zk BK409.out⟩, ⟨by repeat (first | (with_reducible first | exact HB.out | apply below_alloc | apply pw_below_drewN | apply below_drew1 | refine below_set ?_ GE409.out) | exact HB.out)⟩⟩
        case round =>
         clear H'
         try clear c1
         try clear p1
         try clear q1
         try clear hx1
         try clear hf1
         try clear c2
         try clear p2
         try clear p4
         try clear q4
         try clear hx4
         try clear c5
         try clear c6
         try clear p6
         try clear c8
         try clear c10
         try clear c10b0
         try clear c10b1
         try clear c13
         try clear c13b0
         try clear c14
         try clear c14b0
         try clear c15
         try clear c15b0
         try clear c16
         try clear c16b0
         try clear c17
         try clear c17b0
         try clear p18
         try clear q18
         try clear hx18
         try clear hf18
         try clear c22
         try clear c22b0
         try clear c23
         try clear c23b0
         try clear hcz9_0
         try clear hcz9_1
         try clear hfz9_0
         try clear hfz9_1
         try clear hx18_0
         try clear hx414_0
         try clear hx416_0
         try clear p18
         try clear p2
         try clear p414
         try clear p416
         try clear q18
         try clear q414
         try clear q416
         obtain ⟨x8_3, x410000_3, x410001_3, rfl, HA, HK3, HO_4, BK409, HB⟩ := hrel
         cases gk with
         | zero => exact absurd HA.out (by simp [impl_GapClash.l1])
         | succ k3 =>
          have H := HA.out
          clear HA
          simp only [impl_GapClash.l1] at H
          by_cases c24 : x8_3 ≤ (rd l0 (ji21))
          ·rw [if_pos c24] at H
           have c24b0 : decide (x8_3 ≤ (rd l0 (ji21))) = true := decide_eq_true c24
           clear c24
           have H' := Aside0.mk H
           clear H
           go_wp2
           go_loopg [9] k3 (fun kq v9 w' => ∃ (x9_4 : Int) (x410000_4 : Int) (x410001_4 : Int), v9 = .int .i64 x9_4 ∧ Aside0 (impl_GapClash.l2 kq x4_2 (rd l0 (ji21)) x8_3 x9_4 = some (r1, r2, r3)) ∧ Aside0 (kq ≤ k3) ∧ Aside0 (Kd.R Kd.bool 4 w' w.heap.size (fun _ => True) v412 x4_2) ∧ Aside0 (w'.heap[gb409]? = some (.cells #[.int .i64 x410000_4, .int .i64 x410001_4] 56 (0, 0))) ∧ Aside0 (Below w.heap.size w w'))
           case atStart => exact ⟨(x8_3), (x410000_3), (x410001_3), (by first | rfl | (simp; done) | (simp [*]; done)), H', ⟨Nat.le_refl _⟩, ⟨zR HO_4.out⟩, ⟨zk BK409.out⟩, ⟨by repeat (first | (with_reducible first | exact HB.out | apply below_alloc | apply pw_below_drewN | apply below_drew1 | refine below_set ?_ GE409.out) | exact HB.out)⟩⟩
           case round =>
            clear H'
            try clear c1
            try clear p1
            try clear q1
            try clear hx1
            try clear hf1
            try clear c2
            try clear p2
            try clear p4
            try clear q4
            try clear hx4
            try clear c5
            try clear c6
            try clear p6
            try clear c8
            try clear c10
            try clear c10b0
            try clear c10b1
            try clear c13
            try clear c13b0
            try clear c14
            try clear c14b0
            try clear c15
            try clear c15b0
            try clear c16
            try clear c16b0
            try clear c17
            try clear c17b0
            try clear p18
            try clear q18
            try clear hx18
            try clear hf18
            try clear c22
            try clear c22b0
            try clear c23
            try clear c23b0
            try clear c24
            try clear c24b0
            try clear hcz9_0
            try clear hcz9_1
            try clear hfz9_0
            try clear hfz9_1
            try clear hx18_0
            try clear hx414_0
            try clear hx416_0
            try clear p1
            try clear p18
            try clear p2
            try clear p4
            try clear p414
            try clear p416
            try clear p6
            try clear q1
            try clear q18
            try clear q4
            try clear q414
            try clear q416
            obtain ⟨x9_4, x410000_4, x410001_4, rfl, HA, HK4, HO_4, BK409, HB⟩ := hrel
            cases gk with
            | zero => exact absurd HA.out (by simp [impl_GapClash.l2])
            | succ k4 =>
             have H := HA.out
             clear HA
             simp only [impl_GapClash.l2] at H
             by_cases c25 : (wrap64 (x8_3 + x9_4)) ≤ (rd l0 (ji21))
             ·rw [if_pos c25] at H
              have c25b0 : decide ((wrap64 (x8_3 + x9_4)) ≤ (rd l0 (ji21))) = true := decide_eq_true c25
              clear c25
              obtain ⟨c26, H⟩ := zi H
              have c26b0 : decide (0 ≤ x8_3) = true := decide_eq_true c26
              clear c26
              obtain ⟨c27, H⟩ := zi H
              have c27b0 : decide (x8_3 < (x4_2.length : Int)) = true := decide_eq_true c27
              clear c27
              obtain ⟨bq28, hbq28⟩ : ∃ b_ : Bool, b_ = (rdOf false x4_2 x8_3) := ⟨_, rfl⟩
              replace H : (if bq28 = true then (impl_GapClash.l2 k4 x4_2 (rd l0 (ji21)) x8_3 (wrap64 (x9_4 + 1))) else (if 0 ≤ x9_4 then (if x9_4 < (x4_2.length : Int) then (if rdOf false x4_2 x9_4 = true then (impl_GapClash.l2 k4 x4_2 (rd l0 (ji21)) x8_3 (wrap64 (x9_4 + 1))) else (if 0 ≤ (wrap64 (x8_3 + x9_4)) then (if (wrap64 (x8_3 + x9_4)) < (x4_2.length : Int) then (if rdOf false x4_2 (wrap64 (x8_3 + x9_4)) = true then (some (x8_3, x9_4, true)) else (impl_GapClash.l2 k4 x4_2 (rd l0 (ji21)) x8_3 (wrap64 (x9_4 + 1)))) else (none)) else (none))) else (none)) else (none))) = some (r1, r2, r3) := by rw [← hbq28] at H; exact H
              have Nbq28 := Aside0.mk hbq28
              clear hbq28
              by_cases c29 : bq28 = true
              ·subst c29
               rw [zT] at H
               have H' := Aside0.mk H
               clear H
               obtain ⟨Ao30, co30, eo30⟩ := Kd.R_slice HO_4.out
               subst eo30
               have p417 : 0 ≤ (x8_3 : Int) := of_decide_eq_true (by assumption)
               have q417 : x8_3 < (x4_2.length : Int) := of_decide_eq_true (by assumption)
               obtain ⟨ad417, e417, hx417_0⟩ := Kd.at_bool (Kd.R_reads' HO_4.out).2.2 x8_3 p417 q417
               (try rw [← Nbq28.out] at hx417_0)
               cases e417
               replace p417 := eq_true p417
               replace q417 := eq_true q417
               go_wp2
               go_roundg k4
               case measure => have := HJ1.out; have := HK2.out; have := HK3.out; have := HK4.out; omega
               case rel => exact ⟨(wrap64 (x9_4 + 1)), (x410000_4), (x410001_4), (by first | rfl | (simp; done) | (simp [*]; done)), H', ⟨by have := HJ1.out; have := HK2.out; have := HK3.out; have := HK4.out; omega⟩, ⟨zR HO_4.out⟩, ⟨zk BK409.out⟩, ⟨by repeat (first | (with_reducible first | exact HB.out | apply below_alloc | apply pw_below_drewN | apply below_drew1 | refine below_set ?_ GE409.out) | exact HB.out)⟩⟩
              ·replace c29 := Bool.eq_false_iff.mpr c29
               subst c29
               rw [zF] at H
               obtain ⟨c31, H⟩ := zi H
               have c31b0 : decide (0 ≤ x9_4) = true := decide_eq_true c31
               clear c31
               obtain ⟨c32, H⟩ := zi H
               have c32b0 : decide (x9_4 < (x4_2.length : Int)) = true := decide_eq_true c32
               clear c32
               obtain ⟨bq33, hbq33⟩ : ∃ b_ : Bool, b_ = (rdOf false x4_2 x9_4) := ⟨_, rfl⟩
               replace H : (if bq33 = true then (impl_GapClash.l2 k4 x4_2 (rd l0 (ji21)) x8_3 (wrap64 (x9_4 + 1))) else (if 0 ≤ (wrap64 (x8_3 + x9_4)) then (if (wrap64 (x8_3 + x9_4)) < (x4_2.length : Int) then (if rdOf false x4_2 (wrap64 (x8_3 + x9_4)) = true then (some (x8_3, x9_4, true)) else (impl_GapClash.l2 k4 x4_2 (rd l0 (ji21)) x8_3 (wrap64 (x9_4 + 1)))) else (none)) else (none))) = some (r1, r2, r3) := by rw [← hbq33] at H; exact H
               have Nbq33 := Aside0.mk hbq33
               clear hbq33
               by_cases c34 : bq33 = true
               ·subst c34
                rw [zT] at H
                have H' := Aside0.mk H
                clear H
                obtain ⟨Ao35, co35, eo35⟩ := Kd.R_slice HO_4.out
                subst eo35
                have p417 : 0 ≤ (x8_3 : Int) := of_decide_eq_true (by assumption)
                have q417 : x8_3 < (x4_2.length : Int) := of_decide_eq_true (by assumption)
                obtain ⟨ad417, e417, hx417_0⟩ := Kd.at_bool (Kd.R_reads' HO_4.out).2.2 x8_3 p417 q417
                (try rw [← Nbq28.out] at hx417_0)
                (try rw [← Nbq33.out] at hx417_0)
                cases e417
                replace p417 := eq_true p417
                replace q417 := eq_true q417
                have p418 : 0 ≤ (x9_4 : Int) := of_decide_eq_true (by assumption)
                have q418 : x9_4 < (x4_2.length : Int) := of_decide_eq_true (by assumption)
                obtain ⟨ad418, e418, hx418_0⟩ := Kd.at_bool (Kd.R_reads' HO_4.out).2.2 x9_4 p418 q418
                (try rw [← Nbq28.out] at hx418_0)
                (try rw [← Nbq33.out] at hx418_0)
                obtain rfl : ad417 = ad418 := (by injection e418)
                replace p418 := eq_true p418
                replace q418 := eq_true q418
                go_wp2
                go_roundg k4
                case measure => have := HJ1.out; have := HK2.out; have := HK3.out; have := HK4.out; omega
                case rel => exact ⟨(wrap64 (x9_4 + 1)), (x410000_4), (x410001_4), (by first | rfl | (simp; done) | (simp [*]; done)), H', ⟨by have := HJ1.out; have := HK2.out; have := HK3.out; have := HK4.out; omega⟩, ⟨zR HO_4.out⟩, ⟨zk BK409.out⟩, ⟨by repeat (first | (with_reducible first | exact HB.out | apply below_alloc | apply pw_below_drewN | apply below_drew1 | refine below_set ?_ GE409.out) | exact HB.out)⟩⟩
               ·replace c34 := Bool.eq_false_iff.mpr c34
                subst c34
                rw [zF] at H
                obtain ⟨ji36, hji36⟩ : ∃ j_ : Int, (wrap64 (x8_3 + x9_4)) = j_ := ⟨_, rfl⟩
                replace H : (if 0 ≤ (ji36) then (if (ji36) < (x4_2.length : Int) then (if rdOf false x4_2 (ji36) = true then (some (x8_3, x9_4, true)) else (impl_GapClash.l2 k4 x4_2 (rd l0 (ji21)) x8_3 (wrap64 (x9_4 + 1)))) else (none)) else (none)) = some (r1, r2, r3) := by first | (rw [hji36] at H; exact H) | (simp only [hji36] at H ⊢; exact H)
                (try rw [hji36] at c25b0)
                have hji36w : (IntKind.i64.wrap (x8_3 + x9_4)) = ji36 := (i64_w _).trans hji36
                obtain ⟨c37, H⟩ := zi H
                have c37b0 : decide (0 ≤ (ji36)) = true := decide_eq_true c37
                clear c37
                obtain ⟨c38, H⟩ := zi H
                have c38b0 : decide ((ji36) < (x4_2.length : Int)) = true := decide_eq_true c38
                clear c38
                obtain ⟨bq39, hbq39⟩ : ∃ b_ : Bool, b_ = (rdOf false x4_2 (ji36)) := ⟨_, rfl⟩
                replace H : (if bq39 = true then (some (x8_3, x9_4, true)) else (impl_GapClash.l2 k4 x4_2 (rd l0 (ji21)) x8_3 (wrap64 (x9_4 + 1)))) = some (r1, r2, r3) := by rw [← hbq39] at H; exact H
                have Nbq39 := Aside0.mk hbq39
                clear hbq39
                by_cases c40 : bq39 = true
                ·subst c40
                 rw [zT] at H
                 simp only [Option.some.injEq, Prod.mk.injEq] at H
                 obtain ⟨rfl, rfl, rfl⟩ := H
                 obtain ⟨Ao41, co41, eo41⟩ := Kd.R_slice HO_4.out
                 subst eo41
                 have p417 : 0 ≤ (x8_3 : Int) := of_decide_eq_true (by assumption)
                 have q417 : x8_3 < (x4_2.length : Int) := of_decide_eq_true (by assumption)
                 obtain ⟨ad417, e417, hx417_0⟩ := Kd.at_bool (Kd.R_reads' HO_4.out).2.2 x8_3 p417 q417
                 (try rw [← Nbq28.out] at hx417_0)
                 (try rw [← Nbq33.out] at hx417_0)
                 (try rw [← Nbq39.out] at hx417_0)
                 cases e417
                 replace p417 := eq_true p417
                 replace q417 := eq_true q417
                 have p418 : 0 ≤ (x9_4 : Int) := of_decide_eq_true (by assumption)
                 have q418 : x9_4 < (x4_2.length : Int) := of_decide_eq_true (by assumption)
                 obtain ⟨ad418, e418, hx418_0⟩ := Kd.at_bool (Kd.R_reads' HO_4.out).2.2 x9_4 p418 q418
                 (try rw [← Nbq28.out] at hx418_0)
                 (try rw [← Nbq33.out] at hx418_0)
                 (try rw [← Nbq39.out] at hx418_0)
                 obtain rfl : ad417 = ad418 := (by injection e418)
                 replace p418 := eq_true p418
                 replace q418 := eq_true q418
                 have p419 : 0 ≤ ((ji36) : Int) := of_decide_eq_true (by assumption)
                 have q419 : (ji36) < (x4_2.length : Int) := of_decide_eq_true (by assumption)
                 obtain ⟨ad419, e419, hx419_0⟩ := Kd.at_bool (Kd.R_reads' HO_4.out).2.2 (ji36) p419 q419
                 (try rw [← Nbq28.out] at hx419_0)
                 (try rw [← Nbq33.out] at hx419_0)
                 (try rw [← Nbq39.out] at hx419_0)
                 obtain rfl : ad417 = ad419 := (by injection e419)
                 replace p419 := eq_true p419
                 replace q419 := eq_true q419
                 have hcz42_0 : wr.cell? ⟨gb409, 0, none⟩ = some (.int .i64 x410000_4) := (blk_cell BK409.out 0).trans rfl
                 have hcz42_1 : wr.cell? ⟨gb409, 1, none⟩ = some (.int .i64 x410001_4) := (blk_cell BK409.out 1).trans rfl
                 have hfz42_0 := blk_frozen BK409.out 0
                 have hfz42_1 := blk_frozen BK409.out 1
                 go_wp2
                 refine bodyPost_ret (results_ct rfl _ _ gb409 56 #[.int .i64 x8_3, .int .i64 x9_4] (0, 0) _ rfl (by (with_reducible repeat (first | refine blk_drewN ?_ _ | refine blk_drew ?_ | refine blk_alloc ?_ _)); refine blk_put (cs := #[.int .i64 x8_3, .int .i64 x410001_4]) ?_ 1 _ rfl; (with_reducible repeat (first | refine blk_drewN ?_ _ | refine blk_drew ?_ | refine blk_alloc ?_ _)); refine blk_put (cs := #[.int .i64 x410000_4, .int .i64 x410001_4]) ?_ 0 _ rfl; (with_reducible repeat (first | refine blk_drewN ?_ _ | refine blk_drew ?_ | refine blk_alloc ?_ _)); exact BK409.out) Try.underlying56 rfl (by kernel_rfl)) rfl ?_
                 exact ⟨by first | rfl | (simp [errW_none, errW_some] <;> rfl) | (simp only [← hji21, ← hji36]; first | rfl | (simp [errW_none, errW_some] <;> rfl)) | (simp [*, errW_none, errW_some] <;> rfl), by repeat (first | (with_reducible first | exact HB.out | apply below_alloc | apply pw_below_drewN | apply below_drew1 | refine below_set ?_ GE409.out) | exact HB.out)⟩
                ·replace c40 := Bool.eq_false_iff.mpr c40
                 subst c40
                 rw [zF] at H
                 have H' := Aside0.mk H
                 clear H
                 obtain ⟨Ao43, co43, eo43⟩ := Kd.R_slice HO_4.out
                 subst eo43
                 have p417 : 0 ≤ (x8_3 : Int) := of_decide_eq_true (by assumption)
                 have q417 : x8_3 < (x4_2.length : Int) := of_decide_eq_true (by assumption)
                 obtain ⟨ad417, e417, hx417_0⟩ := Kd.at_bool (Kd.R_reads' HO_4.out).2.2 x8_3 p417 q417
                 (try rw [← Nbq28.out] at hx417_0)
                 (try rw [← Nbq33.out] at hx417_0)
                 (try rw [← Nbq39.out] at hx417_0)
                 cases e417
                 replace p417 := eq_true p417
                 replace q417 := eq_true q417
                 have p418 : 0 ≤ (x9_4 : Int) := of_decide_eq_true (by assumption)
                 have q418 : x9_4 < (x4_2.length : Int) := of_decide_eq_true (by assumption)
                 obtain ⟨ad418, e418, hx418_0⟩ := Kd.at_bool (Kd.R_reads' HO_4.out).2.2 x9_4 p418 q418
                 (try rw [← Nbq28.out] at hx418_0)
                 (try rw [← Nbq33.out] at hx418_0)
                 (try rw [← Nbq39.out] at hx418_0)
                 obtain rfl : ad417 = ad418 := (by injection e418)
                 replace p418 := eq_true p418
                 replace q418 := eq_true q418
                 have p419 : 0 ≤ ((ji36) : Int) := of_decide_eq_true (by assumption)
                 have q419 : (ji36) < (x4_2.length : Int) := of_decide_eq_true (by assumption)
                 obtain ⟨ad419, e419, hx419_0⟩ := Kd.at_bool (Kd.R_reads' HO_4.out).2.2 (ji36) p419 q419
                 (try rw [← Nbq28.out] at hx419_0)
                 (try rw [← Nbq33.out] at hx419_0)
                 (try rw [← Nbq39.out] at hx419_0)
                 obtain rfl : ad417 = ad419 := (by injection e419)
                 replace p419 := eq_true p419
                 replace q419 := eq_true q419
                 go_wp2
                 go_roundg k4
                 case measure => have := HJ1.out; have := HK2.out; have := HK3.out; have := HK4.out; omega
                 case rel => exact ⟨(wrap64 (x9_4 + 1)), (x410000_4), (x410001_4), (by first | rfl | (simp; done) | (simp [*]; done)), H', ⟨by have := HJ1.out; have := HK2.out; have := HK3.out; have := HK4.out; omega⟩, ⟨zR HO_4.out⟩, ⟨zk BK409.out⟩, ⟨by repeat (first | (with_reducible first | exact HB.out | apply below_alloc | apply pw_below_drewN | apply below_drew1 | refine below_set ?_ GE409.out) | exact HB.out)⟩⟩
             ·rw [if_neg c25] at H
              have c25b0 : decide ((wrap64 (x8_3 + x9_4)) ≤ (rd l0 (ji21))) = false := decide_eq_false c25
              clear c25
              have H' := Aside0.mk H
              clear H
              go_wp2
              go_roundg k4
              case measure => have := HJ1.out; have := HK2.out; have := HK3.out; have := HK4.out; omega
              case rel => exact ⟨(wrap64 (x8_3 + 1)), (x410000_4), (x410001_4), (by first | rfl | (simp; done) | (simp [*]; done)), H', ⟨by have := HJ1.out; have := HK2.out; have := HK3.out; have := HK4.out; omega⟩, ⟨zR HO_4.out⟩, ⟨zk BK409.out⟩, ⟨by repeat (first | (with_reducible first | exact HB.out | apply below_alloc | apply pw_below_drewN | apply below_drew1 | refine below_set ?_ GE409.out) | exact HB.out)⟩⟩
          ·rw [if_neg c24] at H
           have c24b0 : decide (x8_3 ≤ (rd l0 (ji21))) = false := decide_eq_false c24
           clear c24
           simp only [Option.some.injEq, Prod.mk.injEq] at H
           obtain ⟨rfl, rfl, rfl⟩ := H
           have hcz44_0 : wr.cell? ⟨gb409, 0, none⟩ = some (.int .i64 x410000_3) := (blk_cell BK409.out 0).trans rfl
           have hcz44_1 : wr.cell? ⟨gb409, 1, none⟩ = some (.int .i64 x410001_3) := (blk_cell BK409.out 1).trans rfl
           have hfz44_0 := blk_frozen BK409.out 0
           have hfz44_1 := blk_frozen BK409.out 1
           go_wp2
           refine bodyPost_ret (results_ct rfl _ _ gb409 56 #[.int .i64 0, .int .i64 0] (0, 0) _ rfl (by (with_reducible repeat (first | refine blk_drewN ?_ _ | refine blk_drew ?_ | refine blk_alloc ?_ _)); refine blk_put (cs := #[.int .i64 0, .int .i64 x410001_3]) ?_ 1 _ rfl; (with_reducible repeat (first | refine blk_drewN ?_ _ | refine blk_drew ?_ | refine blk_alloc ?_ _)); refine blk_put (cs := #[.int .i64 x410000_3, .int .i64 x410001_3]) ?_ 0 _ rfl; (with_reducible repeat (first | refine blk_drewN ?_ _ | refine blk_drew ?_ | refine blk_alloc ?_ _)); exact BK409.out) Try.underlying56 rfl (by kernel_rfl)) rfl ?_
           exact ⟨by first | rfl | (simp [errW_none, errW_some] <;> rfl) | (simp only [← hji21]; first | rfl | (simp [errW_none, errW_some] <;> rfl)) | (simp [*, errW_none, errW_some] <;> rfl), by repeat (first | (with_reducible first | exact HB.out | apply below_alloc | apply pw_below_drewN | apply below_drew1 | refine below_set ?_ GE409.out) | exact HB.out)⟩
    ·rw [if_neg c10] at H
     exact absurd H (by simp)

end Go.Proofs.Ytbagfnppeidonaa.PFnExactFromElements
