-- Written by a program of this session (a turned copy of the kit's print; see NOTES.md).
import Derived.Test.YtbagfnppeidonaaPFnExactFromGensx0
import Derived.Test.YtbagfnppeidonaaPFnExactFromGensx13
import Derived.Test.YtbagfnppeidonaaPFnExactFromGensx14
namespace Go.Proofs.Ytbagfnppeidonaa.PFnExactFromGens
open Go.RowKit Go.Proofs.YtbagfnppeidonaaW.PrintWords Go.Proofs.YtbagfnppeidonaaW.PrintLast Go.Proofs.YtbagfnppeidonaaW.PrintMore
attribute [local go_sem] max2_int min2_int max_two min_two max_three min_three max_four min_four   -- for this text's walks alone
set_option linter.unusedVariables false
set_option linter.unusedSimpArgs false

/-! ### impl_IsSemigroup: function 79 -/
mutual
def impl_IsSemigroup.j0 : Nat → List Int → Bool → Option (Bool)
 | 0, _, _ => none
 | k + 1, x3, x27 => if x27 = true then (some false) else (impl_IsSemigroup.l0 k x3 1)
def impl_IsSemigroup.l0 : Nat → List Int → Int → Option (Bool)
 | 0, _, _ => none
 | k + 1, x3, x4 => if x4 < (x3.length : Int) then (if 0 ≤ x4 then (if x4 ≤ (x3.length : Int) then ((impl_Generates.f k (x3.take (x4 : Int).toNat) (rd x3 x4)).bind fun t404 => (if t404 = true then (some false) else (impl_IsSemigroup.l0 k x3 (wrap64 (x4 + 1))))) else (none)) else (none)) else (if 0 < (x3.length : Int) then ((impl_leasts.f k x3 (rd x3 0)).bind fun t406 => (impl_IsSemigroup.l1 k x3 t406 (t406.length : Int) 0)) else (none))
def impl_IsSemigroup.l1 : Nat → List Int → List Int → Int → Int → Option (Bool)
 | 0, _, _, _, _ => none
 | k + 1, x3, x46, x47, x48 => if x48 < x47 then (if 0 ≤ x48 then (if x48 < (x46.length : Int) then (if 0 < (x3.length : Int) then (if (wrap64 ((rd x46 x48) - (rd x3 0))) ≥ 200 then (some false) else (impl_IsSemigroup.l1 k x3 x46 x47 (wrap64 (x48 + 1)))) else (none)) else (none)) else (none)) else (some true)
end
def impl_IsSemigroup.f (k : Nat) (l0_0 : List Int) : Option (Bool) := (impl_within.f (l0_0.length : Int) 1 12).bind fun t398 => (if t398 = true then ((impl_allWithin.f k l0_0 1 60).bind fun t399 => (if t399 = true then ((impl_IsAscending.f k l0_0).bind fun t400 => (if t400 = true then ((impl_GcdOfList.f k l0_0).bind fun t401 => (impl_IsSemigroup.j0 k l0_0 (t401 != 1))) else (impl_IsSemigroup.j0 k l0_0 true))) else (impl_IsSemigroup.j0 k l0_0 true))) else (impl_IsSemigroup.j0 k l0_0 true))
theorem impl_IsSemigroup.mono_l : ∀ k, (∀ y0 y1, LeO (impl_IsSemigroup.j0 k y0 y1) (impl_IsSemigroup.j0 (k + 1) y0 y1)) ∧ (∀ y0 y1, LeO (impl_IsSemigroup.l0 k y0 y1) (impl_IsSemigroup.l0 (k + 1) y0 y1)) ∧ (∀ y0 y1 y2 y3, LeO (impl_IsSemigroup.l1 k y0 y1 y2 y3) (impl_IsSemigroup.l1 (k + 1) y0 y1 y2 y3))
 | 0 => ⟨fun _ _ r h => by simp [impl_IsSemigroup.j0] at h, fun _ _ r h => by simp [impl_IsSemigroup.l0] at h, fun _ _ _ _ r h => by simp [impl_IsSemigroup.l1] at h⟩
 | k + 1 => by
  obtain ⟨ih0, ih1, ih2⟩ := impl_IsSemigroup.mono_l k
  refine ⟨?_, ?_, ?_⟩
  ·intro y0 y1
   unfold impl_IsSemigroup.j0
   repeat' first
   | (with_reducible first | exact ih0 _ _ | exact ih1 _ _ | exact ih2 _ _ _ _ | exact impl_GcdOfList.mono _ _ | exact impl_Generates.mono _ _ _ | exact impl_IsAscending.mono _ _ | exact impl_allWithin.mono _ _ _ _ | exact impl_leasts.mono _ _ _ | exact LeO.refl _ | exact LeO.none _ | refine LeO.ite ?_ ?_ | refine LeO.bind ?_ (fun _ => ?_))
   | exact LeO.none _
   | refine LeO.ite ?_ ?_
   | refine LeO.bind ?_ (fun _ => ?_)
  ·intro y0 y1
   unfold impl_IsSemigroup.l0
   repeat' first
   | (with_reducible first | exact ih0 _ _ | exact ih1 _ _ | exact ih2 _ _ _ _ | exact impl_GcdOfList.mono _ _ | exact impl_Generates.mono _ _ _ | exact impl_IsAscending.mono _ _ | exact impl_allWithin.mono _ _ _ _ | exact impl_leasts.mono _ _ _ | exact LeO.refl _ | exact LeO.none _ | refine LeO.ite ?_ ?_ | refine LeO.bind ?_ (fun _ => ?_))
   | exact LeO.none _
   | refine LeO.ite ?_ ?_
   | refine LeO.bind ?_ (fun _ => ?_)
  ·intro y0 y1 y2 y3
   unfold impl_IsSemigroup.l1
   repeat' first
   | (with_reducible first | exact ih0 _ _ | exact ih1 _ _ | exact ih2 _ _ _ _ | exact impl_GcdOfList.mono _ _ | exact impl_Generates.mono _ _ _ | exact impl_IsAscending.mono _ _ | exact impl_allWithin.mono _ _ _ _ | exact impl_leasts.mono _ _ _ | exact LeO.refl _ | exact LeO.none _ | refine LeO.ite ?_ ?_ | refine LeO.bind ?_ (fun _ => ?_))
   | exact LeO.none _
   | refine LeO.ite ?_ ?_
   | refine LeO.bind ?_ (fun _ => ?_)
theorem impl_IsSemigroup.mono : ∀ a0 k, LeO (impl_IsSemigroup.f k a0) (impl_IsSemigroup.f (k + 1) a0) := by
 intro a0 k
 obtain ⟨ih0, ih1, ih2⟩ := impl_IsSemigroup.mono_l k
 unfold impl_IsSemigroup.f
 repeat' first
   | (with_reducible first | exact ih0 _ _ | exact ih1 _ _ | exact ih2 _ _ _ _ | exact impl_GcdOfList.mono _ _ | exact impl_Generates.mono _ _ _ | exact impl_IsAscending.mono _ _ | exact impl_allWithin.mono _ _ _ _ | exact impl_leasts.mono _ _ _ | exact LeO.refl _ | exact LeO.none _ | refine LeO.ite ?_ ?_ | refine LeO.bind ?_ (fun _ => ?_))
   | exact LeO.none _
   | refine LeO.ite ?_ ?_
   | refine LeO.bind ?_ (fun _ => ?_)
def impl_IsSemigroup.T7 : Bool × List (List Nat × List Nat) := (true, [([], []), ([], []), ([0, 1], [0, 1]), ([], []), ([], []), ([3, 4], [3, 4]), ([5], [5]), ([2, 6], [2, 6])])
def impl_IsSemigroup.B7 : List Nat := [0, 0, 3, 0, 0, 24, 56, 127]
theorem impl_IsSemigroup.tab7 : rtab .any (opsOf Try.f79 7) = impl_IsSemigroup.T7 := by kernel_rfl
theorem impl_IsSemigroup.bits7 : waitsOk impl_IsSemigroup.T7.2 impl_IsSemigroup.B7 = true := by kernel_rfl
set_option maxHeartbeats 8000000 in
set_option maxRecDepth 100000 in
theorem impl_IsSemigroup.calls (k : Nat) (A0_0 : Option Addr) (c0_0 : Nat) (l0_0 : List Int) (r : Bool) (w : World) (hr0_0 : Kd.C (Kd.int .i64) w A0_0 l0_0.length l0_0) (hc0_0 : l0_0.length ≤ c0_0) (h : impl_IsSemigroup.f k l0_0 = some r) :
  Calls Try.prog 79 #[.agg #[.slice A0_0 l0_0.length c0_0]] w fun e w' => e = .returned (.bool r) ∧ Below w.heap.size w w' := by
 have hu40 := Try.underlying40
 have HR0_0 := Aside0.mk hr0_0
 have HC0_0 := Aside0.mk hc0_0
 clear hr0_0 hc0_0
 have HB := Aside0.mk (Below.refl w.heap.size w)
 have H : ((impl_within.f (l0_0.length : Int) 1 12).bind fun t398 => (if t398 = true then ((impl_allWithin.f k l0_0 1 60).bind fun t399 => (if t399 = true then ((impl_IsAscending.f k l0_0).bind fun t400 => (if t400 = true then ((impl_GcdOfList.f k l0_0).bind fun t401 => (impl_IsSemigroup.j0 k l0_0 (t401 != 1))) else (impl_IsSemigroup.j0 k l0_0 true))) else (impl_IsSemigroup.j0 k l0_0 true))) else (impl_IsSemigroup.j0 k l0_0 true))) = some r := h
 clear h
 have HC2 := Aside0.mk H
 clear H
 go_enter Try.func79, Try.ntmps79
 go_upto_region 2 with (first | ((with_reducible refine gate_dst (N := 1) rfl ?_); refine box_event ?hg (N := 1) ?hd (cs := #[.slice A0_0 l0_0.length c0_0]) (t := 40) ?hr ?_; (case hd => rfl); (case hg => rfl); (case hr => first | (go_simp; done) | (go_simp; rfl)); intro gb397 hg w3 hbox hb; have n0_ := Aside0.mk (below_step (zB HB.out) hb); have n1_ := Aside0.mk (hbox); have n2_ := Aside0.mk ((by rw [hg]; exact (zS HB.out) : w.heap.size ≤ gb397)); have n3_ := Aside0.mk ((by rw [hg]; exact (zS HB.out) : w.heap.size ≤ gb397)); clear HB; have HB := n0_; have BK397 := n1_; have GW397 := n2_; have GE397 := n3_; clear n0_ n1_ n2_ n3_; clear hb hbox hg; have hcz4_0 : w3.cell? ⟨gb397, 0, none⟩ = some (.slice A0_0 l0_0.length c0_0) := (blk_cell BK397.out 0).trans rfl; have hfz4_0 := blk_frozen BK397.out 0))
 (try simp only [Act.put, List.setIfInBounds_toArray, List.set_cons_zero, List.set_cons_succ])
 go_cut [27] (fun v27 wc => ∃ (kq : Nat) (x27_1 : Bool), v27 = .bool x27_1 ∧ Aside0 (impl_IsSemigroup.j0 kq l0_0 x27_1 = some r) ∧ Aside0 (kq ≤ k) ∧ Aside0 (wc.heap[gb397]? = some (.cells #[(.slice A0_0 l0_0.length c0_0)] 40 (0, 0))) ∧ Aside0 (Below w.heap.size w wc))
 case first =>
  have H := HC2.out
  clear HC2
  obtain ⟨t398, A5, H⟩ := zb H
  by_cases c6 : t398 = true
  ·subst c6
   rw [zT] at H
   obtain ⟨t399, A7, H⟩ := zb H
   by_cases c8 : t399 = true
   ·subst c8
    rw [zT] at H
    obtain ⟨t400, A9, H⟩ := zb H
    by_cases c10 : t400 = true
    ·subst c10
     rw [zT] at H
     obtain ⟨t401, A11, H⟩ := zb H
     have H' := Aside0.mk H
     clear H
     go_wp2_with (first | ((with_reducible refine gate_callee (f := 119) rfl ?_); refine goesL_ (some 11) rfl rfl Try.func119 (by kernel_rfl) rfl #[.int .i64 (l0_0.length : Int), .int .i64 1, .int .i64 12] rfl (by (try simp only [za, zc, zn]); first | done | rfl | (simp only [List.length_drop, List.length_take]; rfl)) ?_; (with_reducible refine (impl_within.calls (l0_0.length : Int) 1 12 true _ A5.out).mono ?_); rintro e w12 ⟨rfl, hb⟩; refine ⟨_, rfl, ?_⟩; have n0_ := Aside0.mk (blk_below (g := gb397) (o := .cells #[.slice A0_0 l0_0.length c0_0] 40 (0, 0)) (zk BK397.out) hb); have n1_ := Aside0.mk (below_step (by repeat (first | (with_reducible first | exact HB.out | apply below_alloc | apply pw_below_drewN | apply below_drew1 | refine below_set ?_ GE397.out) | exact HB.out)) hb); clear BK397; clear HB; have BK397 := n0_; have HB := n1_; clear n0_ n1_; (try clear hb); (try clear hb2); (try clear hk); (try clear hi)) | (go_at_call 115; (with_reducible refine (impl_allWithin.calls k _ _ l0_0 1 60 true _ ?side1 ?side2 A7.out).mono ?_); (case side1 => exact zC (Kd.C_below HR0_0.out HB.out)); (case side2 => exact HC0_0.out); rintro e w13 ⟨rfl, hb⟩; have n0_ := Aside0.mk (blk_below (g := gb397) (o := .cells #[.slice A0_0 l0_0.length c0_0] 40 (0, 0)) (zk BK397.out) hb); have n1_ := Aside0.mk (below_step (by repeat (first | (with_reducible first | exact HB.out | apply below_alloc | apply pw_below_drewN | apply below_drew1 | refine below_set ?_ GE397.out) | exact HB.out)) hb); clear BK397; clear HB; have BK397 := n0_; have HB := n1_; clear n0_ n1_; (try clear hb); (try clear hb2); (try clear hk); (try clear hi)) | (go_at_call 140; (with_reducible refine (impl_IsAscending.calls k _ _ l0_0 true _ ?side1 ?side2 A9.out).mono ?_); (case side1 => exact zC (Kd.C_below HR0_0.out HB.out)); (case side2 => exact HC0_0.out); rintro e w' ⟨rfl, ⟨nd, rfl⟩⟩) | (go_at_call 141; (with_reducible refine (impl_GcdOfList.calls k _ _ l0_0 t401 _ ?side1 ?side2 A11.out).mono ?_); (case side1 => exact zC (Kd.C_below HR0_0.out (by repeat (first | (with_reducible first | exact HB.out | apply below_alloc | apply pw_below_drewN | apply below_drew1 | refine below_set ?_ GE397.out) | exact HB.out)))); (case side2 => exact HC0_0.out); rintro e w14 ⟨rfl, hb⟩; have n0_ := Aside0.mk (blk_below (g := gb397) (o := .cells #[.slice A0_0 l0_0.length c0_0] 40 (0, 0)) (zk BK397.out) hb); have n1_ := Aside0.mk (below_step (by repeat (first | (with_reducible first | exact HB.out | apply below_alloc | apply pw_below_drewN | apply below_drew1 | refine below_set ?_ GE397.out) | exact HB.out)) hb); clear BK397; clear HB; have BK397 := n0_; have HB := n1_; clear n0_ n1_; (try clear hb); (try clear hb2); (try clear hk); (try clear hi)))
     go_meet
     case rel => exact ⟨_, ((t401 != 1)), (by first | rfl | (simp; done) | (simp [*]; done)), H', ⟨by first | omega | exact Nat.le_refl _⟩, ⟨zk BK397.out⟩, ⟨by repeat (first | (with_reducible first | exact HB.out | apply below_alloc | apply pw_below_drewN | apply below_drew1 | refine below_set ?_ GE397.out) | exact HB.out)⟩⟩
    ·replace c10 := Bool.eq_false_iff.mpr c10
     subst c10
     rw [zF] at H
     have H' := Aside0.mk H
     clear H
     go_wp2_with (first | ((with_reducible refine gate_callee (f := 119) rfl ?_); refine goesL_ (some 11) rfl rfl Try.func119 (by kernel_rfl) rfl #[.int .i64 (l0_0.length : Int), .int .i64 1, .int .i64 12] rfl (by (try simp only [za, zc, zn]); first | done | rfl | (simp only [List.length_drop, List.length_take]; rfl)) ?_; (with_reducible refine (impl_within.calls (l0_0.length : Int) 1 12 true _ A5.out).mono ?_); rintro e w15 ⟨rfl, hb⟩; refine ⟨_, rfl, ?_⟩; have n0_ := Aside0.mk (blk_below (g := gb397) (o := .cells #[.slice A0_0 l0_0.length c0_0] 40 (0, 0)) (zk BK397.out) hb); have n1_ := Aside0.mk (below_step (by repeat (first | (with_reducible first | exact HB.out | apply below_alloc | apply pw_below_drewN | apply below_drew1 | refine below_set ?_ GE397.out) | exact HB.out)) hb); clear BK397; clear HB; have BK397 := n0_; have HB := n1_; clear n0_ n1_; (try clear hb); (try clear hb2); (try clear hk); (try clear hi)) | (go_at_call 115; (with_reducible refine (impl_allWithin.calls k _ _ l0_0 1 60 true _ ?side1 ?side2 A7.out).mono ?_); (case side1 => exact zC (Kd.C_below HR0_0.out HB.out)); (case side2 => exact HC0_0.out); rintro e w16 ⟨rfl, hb⟩; have n0_ := Aside0.mk (blk_below (g := gb397) (o := .cells #[.slice A0_0 l0_0.length c0_0] 40 (0, 0)) (zk BK397.out) hb); have n1_ := Aside0.mk (below_step (by repeat (first | (with_reducible first | exact HB.out | apply below_alloc | apply pw_below_drewN | apply below_drew1 | refine below_set ?_ GE397.out) | exact HB.out)) hb); clear BK397; clear HB; have BK397 := n0_; have HB := n1_; clear n0_ n1_; (try clear hb); (try clear hb2); (try clear hk); (try clear hi)) | (go_at_call 140; (with_reducible refine (impl_IsAscending.calls k _ _ l0_0 false _ ?side1 ?side2 A9.out).mono ?_); (case side1 => exact zC (Kd.C_below HR0_0.out HB.out)); (case side2 => exact HC0_0.out); rintro e w' ⟨rfl, ⟨nd, rfl⟩⟩))
     go_meet
     case rel => exact ⟨_, (true), (by first | rfl | (simp; done) | (simp [*]; done)), H', ⟨by first | omega | exact Nat.le_refl _⟩, ⟨zk BK397.out⟩, ⟨by repeat (first | (with_reducible first | exact HB.out | apply below_alloc | apply pw_below_drewN | apply below_drew1 | refine below_set ?_ GE397.out) | exact HB.out)⟩⟩
   ·replace c8 := Bool.eq_false_iff.mpr c8
    subst c8
    rw [zF] at H
    have H' := Aside0.mk H
    clear H
    go_wp2_with (first | ((with_reducible refine gate_callee (f := 119) rfl ?_); refine goesL_ (some 11) rfl rfl Try.func119 (by kernel_rfl) rfl #[.int .i64 (l0_0.length : Int), .int .i64 1, .int .i64 12] rfl (by (try simp only [za, zc, zn]); first | done | rfl | (simp only [List.length_drop, List.length_take]; rfl)) ?_; (with_reducible refine (impl_within.calls (l0_0.length : Int) 1 12 true _ A5.out).mono ?_); rintro e w17 ⟨rfl, hb⟩; refine ⟨_, rfl, ?_⟩; have n0_ := Aside0.mk (blk_below (g := gb397) (o := .cells #[.slice A0_0 l0_0.length c0_0] 40 (0, 0)) (zk BK397.out) hb); have n1_ := Aside0.mk (below_step (by repeat (first | (with_reducible first | exact HB.out | apply below_alloc | apply pw_below_drewN | apply below_drew1 | refine below_set ?_ GE397.out) | exact HB.out)) hb); clear BK397; clear HB; have BK397 := n0_; have HB := n1_; clear n0_ n1_; (try clear hb); (try clear hb2); (try clear hk); (try clear hi)) | (go_at_call 115; (with_reducible refine (impl_allWithin.calls k _ _ l0_0 1 60 false _ ?side1 ?side2 A7.out).mono ?_); (case side1 => exact zC (Kd.C_below HR0_0.out HB.out)); (case side2 => exact HC0_0.out); rintro e w18 ⟨rfl, hb⟩; have n0_ := Aside0.mk (blk_below (g := gb397) (o := .cells #[.slice A0_0 l0_0.length c0_0] 40 (0, 0)) (zk BK397.out) hb); have n1_ := Aside0.mk (below_step (by repeat (first | (with_reducible first | exact HB.out | apply below_alloc | apply pw_below_drewN | apply below_drew1 | refine below_set ?_ GE397.out) | exact HB.out)) hb); clear BK397; clear HB; have BK397 := n0_; have HB := n1_; clear n0_ n1_; (try clear hb); (try clear hb2); (try clear hk); (try clear hi)))
    go_meet
    case rel => exact ⟨_, (true), (by first | rfl | (simp; done) | (simp [*]; done)), H', ⟨by first | omega | exact Nat.le_refl _⟩, ⟨zk BK397.out⟩, ⟨by repeat (first | (with_reducible first | exact HB.out | apply below_alloc | apply pw_below_drewN | apply below_drew1 | refine below_set ?_ GE397.out) | exact HB.out)⟩⟩
  ·replace c6 := Bool.eq_false_iff.mpr c6
   subst c6
   rw [zF] at H
   have H' := Aside0.mk H
   clear H
   go_wp2_with (first | ((with_reducible refine gate_callee (f := 119) rfl ?_); refine goesL_ (some 11) rfl rfl Try.func119 (by kernel_rfl) rfl #[.int .i64 (l0_0.length : Int), .int .i64 1, .int .i64 12] rfl (by (try simp only [za, zc, zn]); first | done | rfl | (simp only [List.length_drop, List.length_take]; rfl)) ?_; (with_reducible refine (impl_within.calls (l0_0.length : Int) 1 12 false _ A5.out).mono ?_); rintro e w19 ⟨rfl, hb⟩; refine ⟨_, rfl, ?_⟩; have n0_ := Aside0.mk (blk_below (g := gb397) (o := .cells #[.slice A0_0 l0_0.length c0_0] 40 (0, 0)) (zk BK397.out) hb); have n1_ := Aside0.mk (below_step (by repeat (first | (with_reducible first | exact HB.out | apply below_alloc | apply pw_below_drewN | apply below_drew1 | refine below_set ?_ GE397.out) | exact HB.out)) hb); clear BK397; clear HB; have BK397 := n0_; have HB := n1_; clear n0_ n1_; (try clear hb); (try clear hb2); (try clear hk); (try clear hi)))
   go_meet
   case rel => exact ⟨_, (true), (by first | rfl | (simp; done) | (simp [*]; done)), H', ⟨by first | omega | exact Nat.le_refl _⟩, ⟨zk BK397.out⟩, ⟨by repeat (first | (with_reducible first | exact HB.out | apply below_alloc | apply pw_below_drewN | apply below_drew1 | refine below_set ?_ GE397.out) | exact HB.out)⟩⟩
 case rest =>
  clear HC2
  try clear c1
  try clear p2
  try clear c6
  try clear c7
  try clear c8
  try clear c10
  try clear c11
  try clear hcz4_0
  try clear hfz4_0
  obtain ⟨kq, x27_1, rfl, HA, HJ1, BK397, HB⟩ := hcut
  cases kq with
  | zero => exact absurd HA.out (by simp [impl_IsSemigroup.j0])
  | succ kj1 =>
   have H := HA.out
   clear HA
   simp only [impl_IsSemigroup.j0] at H
   by_cases c20 : x27_1 = true
   ·subst c20
    rw [zT] at H
    obtain rfl := Option.some.inj H
    go_wp2
    go_ret
    exact ⟨by first | rfl | (simp [errW_none, errW_some] <;> rfl) | (simp [*, errW_none, errW_some] <;> rfl), by repeat (first | (with_reducible first | exact HB.out | apply below_alloc | apply pw_below_drewN | apply below_drew1 | refine below_set ?_ GE397.out) | exact HB.out)⟩
   ·replace c20 := Bool.eq_false_iff.mpr c20
    subst c20
    rw [zF] at H
    have H' := Aside0.mk H
    clear H
    go_wp2
    go_loopg [4] kj1 (fun kq v4 w' => ∃ (x4_2 : Int), v4 = .int .i64 x4_2 ∧ Aside0 (impl_IsSemigroup.l0 kq l0_0 x4_2 = some r) ∧ Aside0 (kq ≤ kj1) ∧ Aside0 (w'.heap[gb397]? = some (.cells #[(.slice A0_0 l0_0.length c0_0)] 40 (0, 0))) ∧ Aside0 (Below w.heap.size w w'))
    case atStart => exact ⟨(1), (by first | rfl | (simp; done) | (simp [*]; done)), H', ⟨Nat.le_refl _⟩, ⟨zk BK397.out⟩, ⟨by repeat (first | (with_reducible first | exact HB.out | apply below_alloc | apply pw_below_drewN | apply below_drew1 | refine below_set ?_ GE397.out) | exact HB.out)⟩⟩
    case round =>
     clear H'
     try clear c1
     try clear c2
     try clear p2
     try clear c6
     try clear c7
     try clear c8
     try clear c10
     try clear c11
     try clear c20
     try clear hcz4_0
     try clear hfz4_0
     try clear p2
     obtain ⟨x4_2, rfl, HA, HK2, BK397, HB⟩ := hrel
     cases gk with
     | zero => exact absurd HA.out (by simp [impl_IsSemigroup.l0])
     | succ k2 =>
      have H := HA.out
      clear HA
      simp only [impl_IsSemigroup.l0] at H
      by_cases c21 : x4_2 < (l0_0.length : Int)
      ·rw [if_pos c21] at H
       have c21b0 : decide (x4_2 < (l0_0.length : Int)) = true := decide_eq_true c21
       clear c21
       obtain ⟨c22, H⟩ := zi H
       have c22b0 := eq_true c22
       have c22b1 : decide (0 ≤ x4_2) = true := decide_eq_true c22
       clear c22
       obtain ⟨c23, H⟩ := zi H
       have c23b0 := eq_true c23
       have c23b1 : decide (x4_2 ≤ (l0_0.length : Int)) = true := decide_eq_true c23
       clear c23
       obtain ⟨t404, A24, H⟩ := zb H
       have HU25 := Aside0.mk H
       clear H
       try go_wp2
       have n0_ := Aside0.mk (blk_drew BK397.out)
       have n1_ := Aside0.mk (below_drew1 HB.out)
       clear BK397
       clear HB
       have BK397 := n0_
       have HB := n1_
       clear n0_ n1_
       obtain ⟨i027, hi027, _, hsz27, _⟩ := info_parts info3
       obtain ⟨hcut27, hA27, hC27⟩ := print_take_of (P := Try.prog) (Value.int .i64) 0 33 3 .i64 Try.underlying33 hi027 hsz27 A0_0 c0_0 l0_0 x4_2 (of_decide_eq_true (by assumption)) (of_decide_eq_true (by assumption)) HC0_0.out
       have HR402 := Aside0.mk (Kd.C_of_reads (h1 := fun _ => rfl) (hA27 _ (Kd.reads_of_C HR0_0.out)))
       have HC402 := Aside0.mk hC27
       clear hA27 hC27 hi027 hsz27
       have p403 : 0 ≤ (x4_2 : Int) := of_decide_eq_true (by assumption)
       have q403 : x4_2 < (l0_0.length : Int) := of_decide_eq_true (by assumption)
       obtain ⟨ad403, e403, hx403_0⟩ := Kd.at_int HR0_0.out x4_2 p403 q403
       have hw403_0 := hx403_0
       cases e403
       (try replace hx403_0 := (HB.out.cell (World.block_lt_of_cell? w _ hx403_0)).trans hx403_0)
       replace p403 := eq_true p403
       replace q403 := eq_true q403
       refine start_ (n := 8) (S := fun w' => w'.cell? (ad403.add (x4_2).toNat) = some (.int .i64 (rd l0_0 x4_2))) (ds := []) #[false, false, false, false, false, false, false, false] (by kernel_rfl) rfl rfl (((HB.out.cell (World.block_lt_of_cell? w _ hw403_0)).trans hw403_0)) (fun hHeld => ?_); refine with_tabW impl_IsSemigroup.tab7 impl_IsSemigroup.bits7 (fun HT_ HW_ => ?_)
       generalize wr.drew = w26 at BK397 HB HR402 hx403_0 hHeld ⊢
       refine pure_ (i := 0) (N := some 34) (v := ?_) (a' := ?_) #[true, false, false, false, false, false, false, false] rfl rfl (any_of HT_.out (by kernel_rfl)) (fun _ _ _ h => h) (Or.inl ⟨by rfl, ?_⟩) ?_ ?_
       rotate_left
       ·intro w'
        go_simp
        with_reducible rfl
       rotate_left
       ·simp only [Act.put, qA, qB, qC, i64_w, i32_w]
        rfl
       refine pure_ (i := 1) (N := some 35) (v := ?_) (a' := ?_) #[true, true, false, false, false, false, false, false] rfl rfl (any_of HT_.out (by kernel_rfl)) (fun _ _ _ h => h) (Or.inl ⟨by rfl, ?_⟩) ?_ ?_
       rotate_left
       ·intro w'
        go_simp
        with_reducible rfl
       rotate_left
       ·simp only [Act.put, qA, qB, qC, i64_w, i32_w]
        rfl
       refine pure_ (i := 2) (N := some 36) (v := ?_) (a' := ?_) #[true, true, true, false, false, false, false, false] rfl rfl (any_of HT_.out (by kernel_rfl)) (fun _ _ _ h => h) (Or.inl ⟨by rfl, ?_⟩) ?_ ?_
       rotate_left
       ·intro w'
        go_simp
        with_reducible rfl
       rotate_left
       ·simp only [Act.put, qA, qB, qC, i64_w, i32_w]
        rfl
       refine pure_ (i := 3) (N := some 37) (v := ?_) (a' := ?_) #[true, true, true, true, false, false, false, false] rfl rfl (any_of HT_.out (by kernel_rfl)) (fun _ _ _ h => h) (Or.inl ⟨by rfl, ?_⟩) ?_ ?_
       rotate_left
       ·intro w'
        go_simp
        with_reducible rfl
       rotate_left
       ·simp only [Act.put, qA, qB, qC, i64_w, i32_w]
        rfl
       refine pure_ (i := 4) (N := some 38) (v := ?_) (a' := ?_) #[true, true, true, true, true, false, false, false] rfl rfl (any_of HT_.out (by kernel_rfl)) (fun _ _ _ h => h) (Or.inl ⟨by rfl, ?_⟩) ?_ ?_
       rotate_left
       ·intro w'
        go_simp
        with_reducible rfl
       rotate_left
       ·simp only [Act.put, qA, qB, qC, i64_w, i32_w]
        rfl
       refine pure_ (i := 5) (N := some 39) (v := ?_) (a' := ?_) #[true, true, true, true, true, true, false, false] rfl rfl (any_of HT_.out (by kernel_rfl)) (fun _ _ _ h => h) (Or.inl ⟨by rfl, ?_⟩) ?_ ?_
       rotate_left
       ·intro w'
        go_simp
        with_reducible rfl
       rotate_left
       ·simp only [Act.put, qA, qB, qC, i64_w, i32_w]
        rfl
       refine take_ (i := 6) (N := some 40) (v := ?_) (a' := ?_) #[true, true, true, true, true, true, true, false] rfl rfl (take_ofW HT_.out HW_.out (by kernel_rfl)) (fun _ _ _ h => h) (Or.inl ⟨by rfl, ?_⟩) hHeld ?_ ?_
       rotate_left
       ·intro w' s0
        go_simp
        with_reducible rfl
       rotate_left
       ·simp only [Act.put, qA, qB, qC, i64_w, i32_w]
        rfl
       refine one_ (i := 7) (N := some 41) #[true, true, true, true, true, true, true, true] rfl rfl (one_of HT_.out (by kernel_rfl)) (by decide) (fun K hK => ?_)
       refine goes_ Try.func76 (by kernel_rfl) rfl #[.slice (some ad403) (l0_0.take (x4_2 : Int).toNat).length c0_0, .int .i64 (rd l0_0 x4_2)] (by rfl) rfl rfl (by (try simp only [List.map_toArray, List.map_cons, List.map_nil]); first | done | (rw [show (l0_0.take (x4_2 : Int).toNat).length = x4_2.toNat from (by rw [List.length_take]; have h_ : (x4_2 : Int) ≤ (l0_0.length : Int) := of_decide_eq_true (by assumption); omega)] <;> rfl) | rfl | (simp only [List.length_drop, List.length_take]; rfl)) ?_
       with_reducible refine (impl_Generates.calls k2 _ _ (l0_0.take (x4_2 : Int).toNat) (rd l0_0 x4_2) t404 _ ?side1 ?side2 A24.out).mono ?_
       (case side1 => exact zC (Kd.C_below HR402.out HB.out))
       (case side2 => exact HC402.out)
       rintro e w28 ⟨rfl, hb⟩
       refine ⟨_, rfl, ?_⟩
       have n0_ := Aside0.mk (blk_below (g := gb397) (o := .cells #[.slice (some ad403) l0_0.length c0_0] 40 (0, 0)) (zk BK397.out) hb)
       have n1_ := Aside0.mk (below_step (by repeat (first | (with_reducible first | exact HB.out | apply below_alloc | apply pw_below_drewN | apply below_drew1 | refine below_set ?_ GE397.out) | exact HB.out)) hb)
       clear BK397
       clear HB
       have BK397 := n0_
       have HB := n1_
       clear n0_ n1_
       (try clear hb)
       (try clear hb2)
       (try clear hk)
       (try clear hi)
       refine hK.out _ _ (((HB.out.cell (World.block_lt_of_cell? w _ hw403_0)).trans hw403_0)) (fun hHeld => ?_)
       clear hK K
       refine norm_ (a' := ?_) ?_ ?_
       rotate_left
       ·show Act.put _ (some 41) _ = _
        simp only [Act.put, qA, qB, qC, i64_w, i32_w]
        rfl
       refine done_ (done_of HT_.out (by kernel_rfl)) ?_
       go_upto_if 41 with (fail)
       have H := HU25.out
       clear HU25
       by_cases c29 : t404 = true
       ·subst c29
        rw [zT] at H
        obtain rfl := Option.some.inj H
        go_wp2
        go_ret
        exact ⟨by first | rfl | (simp [errW_none, errW_some] <;> rfl) | (simp [*, errW_none, errW_some] <;> rfl), by repeat (first | (with_reducible first | exact HB.out | apply below_alloc | apply pw_below_drewN | apply below_drew1 | refine below_set ?_ GE397.out) | exact HB.out)⟩
       ·replace c29 := Bool.eq_false_iff.mpr c29
        subst c29
        rw [zF] at H
        have H' := Aside0.mk H
        clear H
        go_wp2
        go_roundg k2
        case measure => have := HJ1.out; have := HK2.out; omega
        case rel => exact ⟨(wrap64 (x4_2 + 1)), (by first | rfl | (simp; done) | (simp [*]; done)), H', ⟨by have := HJ1.out; have := HK2.out; omega⟩, ⟨zk BK397.out⟩, ⟨by repeat (first | (with_reducible first | exact HB.out | apply below_alloc | apply pw_below_drewN | apply below_drew1 | refine below_set ?_ GE397.out) | exact HB.out)⟩⟩
      ·rw [if_neg c21] at H
       have c21b0 : decide (x4_2 < (l0_0.length : Int)) = false := decide_eq_false c21
       clear c21
       by_cases c30 : 0 < (l0_0.length : Int)
       ·rw [if_pos c30] at H
        have c30b0 : decide (0 < (l0_0.length : Int)) = true := decide_eq_true c30
        have c30b1 : decide (0 < l0_0.length) = true := decide_eq_true (by omega)
        clear c30
        obtain ⟨t406, A31, H⟩ := zb H
        have H' := Aside0.mk H
        clear H
        have p405 : 0 ≤ (0 : Int) := (by omega)
        have q405 : 0 < (l0_0.length : Int) := of_decide_eq_true (by assumption)
        obtain ⟨ad405, e405, hx405_0⟩ := Kd.at_int HR0_0.out 0 p405 q405
        cases e405
        have qi405 : (0 < l0_0.length) = True := eq_true (by omega)
        (try rw [show ((0 : Int)).toNat = 0 from rfl] at hx405_0)
        (try rw [Addr.add_zero'] at hx405_0)
        (try replace hx405_0 := (HB.out.cell (World.block_lt_of_cell? w _ hx405_0)).trans hx405_0)
        replace p405 := eq_true p405
        replace q405 := eq_true q405
        go_wp2_with (first | ((with_reducible refine gate_callee (f := 129) rfl ?_); refine goesL_ (some 46) rfl rfl Try.func129 (by kernel_rfl) rfl #[.slice (some ad405) l0_0.length c0_0, .int .i64 (rd l0_0 0)] rfl (by (try simp only [za, zc, zn]); first | done | rfl | (simp only [List.length_drop, List.length_take]; rfl)) ?_; (with_reducible refine (impl_leasts.calls k2 _ _ l0_0 (rd l0_0 0) t406 _ ?side1 ?side2 A31.out).mono ?_); (case side1 => exact zC (Kd.C_below HR0_0.out HB.out)); (case side2 => exact HC0_0.out); rintro e w32 ⟨v407, rfl, ho0, hb⟩; refine ⟨_, rfl, ?_⟩; have n0_ := Aside0.mk (Kd.R_lower ho0 (below_size (by repeat (first | (with_reducible first | exact HB.out | apply below_alloc | apply pw_below_drewN | apply below_drew1 | refine below_set ?_ GE397.out) | exact HB.out)))); have n1_ := Aside0.mk (blk_below (g := gb397) (o := .cells #[.slice (some ad405) l0_0.length c0_0] 40 (0, 0)) (zk BK397.out) hb); have n2_ := Aside0.mk (below_step (by repeat (first | (with_reducible first | exact HB.out | apply below_alloc | apply pw_below_drewN | apply below_drew1 | refine below_set ?_ GE397.out) | exact HB.out)) hb); clear BK397; clear HB; have HO408 := n0_; have BK397 := n1_; have HB := n2_; clear n0_ n1_ n2_; (try clear hb); (try clear hb2); (try clear hk); (try clear hi); (try clear ho0); obtain ⟨Ao33, co33, eo33⟩ := Kd.R_slice HO408.out; subst eo33))
        go_loopg [48] k2 (fun kq v48 w' => ∃ (x48_3 : Int), v48 = .int .i64 x48_3 ∧ Aside0 (impl_IsSemigroup.l1 kq l0_0 t406 (t406.length : Int) x48_3 = some r) ∧ Aside0 (kq ≤ k2) ∧ Aside0 (Kd.R (Kd.int .i64) 3 w' w.heap.size (fun _ => True) (.slice Ao33 t406.length co33) t406) ∧ Aside0 (w'.heap[gb397]? = some (.cells #[(.slice (some ad405) l0_0.length c0_0)] 40 (0, 0))) ∧ Aside0 (Below w.heap.size w w'))
        case atStart => exact ⟨(0), (by first | rfl | (simp; done) | (simp [*]; done)), H', ⟨Nat.le_refl _⟩, ⟨zR HO408.out⟩, ⟨zk BK397.out⟩, ⟨by repeat (first | (with_reducible first | exact HB.out | apply below_alloc | apply pw_below_drewN | apply below_drew1 | refine below_set ?_ GE397.out) | exact HB.out)⟩⟩
        case round =>
         clear H'
         try clear c1
         try clear c2
         try clear p2
         try clear c3
         try clear p4
         try clear q4
         try clear hx4
         try clear qi4
         try clear c6
         try clear p6
         try clear c7
         try clear c8
         try clear c10
         try clear c11
         try clear c12
         try clear c20
         try clear c21
         try clear c21b0
         try clear c22
         try clear c22b0
         try clear c22b1
         try clear c23
         try clear c23b0
         try clear c23b1
         try clear c29
         try clear c30
         try clear c30b0
         try clear c30b1
         try clear hcz4_0
         try clear hfz4_0
         try clear hx403_0
         try clear hx405_0
         try clear p2
         try clear p403
         try clear p405
         try clear q403
         try clear q405
         obtain ⟨x48_3, rfl, HA, HK3, HO_46, BK397, HB⟩ := hrel
         cases gk with
         | zero => exact absurd HA.out (by simp [impl_IsSemigroup.l1])
         | succ k3 =>
          have H := HA.out
          clear HA
          simp only [impl_IsSemigroup.l1] at H
          by_cases c34 : x48_3 < (t406.length : Int)
          ·rw [if_pos c34] at H
           have c34b0 : decide (x48_3 < (t406.length : Int)) = true := decide_eq_true c34
           clear c34
           obtain ⟨c35, H⟩ := zi H
           have c35b0 : decide (0 ≤ x48_3) = true := decide_eq_true c35
           clear c35
           obtain ⟨c36, H⟩ := zi H
           have c36b0 : decide (x48_3 < (t406.length : Int)) = true := decide_eq_true c36
           clear c36
           obtain ⟨c37, H⟩ := zi H
           have c37b0 : decide (0 < (l0_0.length : Int)) = true := decide_eq_true c37
           have c37b1 : decide (0 < l0_0.length) = true := decide_eq_true (by omega)
           clear c37
           by_cases c38 : (wrap64 ((rd t406 x48_3) - (rd l0_0 0))) ≥ 200
           ·rw [if_pos c38] at H
            have c38b0 : decide (200 ≤ (wrap64 ((rd t406 x48_3) - (rd l0_0 0)))) = true := decide_eq_true c38
            clear c38
            obtain rfl := Option.some.inj H
            have p409 : 0 ≤ (x48_3 : Int) := of_decide_eq_true (by assumption)
            have q409 : x48_3 < (t406.length : Int) := of_decide_eq_true (by assumption)
            obtain ⟨ad409, e409, hx409_0⟩ := Kd.at_int (Kd.R_reads' HO_46.out).2.2 x48_3 p409 q409
            cases e409
            replace p409 := eq_true p409
            replace q409 := eq_true q409
            have p410 : 0 ≤ (0 : Int) := (by omega)
            have q410 : 0 < (l0_0.length : Int) := of_decide_eq_true (by assumption)
            obtain ⟨ad410, e410, hx410_0⟩ := Kd.at_int HR0_0.out 0 p410 q410
            obtain rfl : ad405 = ad410 := (by injection e410)
            have qi410 : (0 < l0_0.length) = True := eq_true (by omega)
            (try rw [show ((0 : Int)).toNat = 0 from rfl] at hx410_0)
            (try rw [Addr.add_zero'] at hx410_0)
            (try replace hx410_0 := (HB.out.cell (World.block_lt_of_cell? w _ hx410_0)).trans hx410_0)
            replace p410 := eq_true p410
            replace q410 := eq_true q410
            go_wp2
            go_ret
            exact ⟨by first | rfl | (simp [errW_none, errW_some] <;> rfl) | (simp [*, errW_none, errW_some] <;> rfl), by repeat (first | (with_reducible first | exact HB.out | apply below_alloc | apply pw_below_drewN | apply below_drew1 | refine below_set ?_ GE397.out) | exact HB.out)⟩
           ·rw [if_neg c38] at H
            have c38b0 : decide (200 ≤ (wrap64 ((rd t406 x48_3) - (rd l0_0 0)))) = false := decide_eq_false c38
            clear c38
            have H' := Aside0.mk H
            clear H
            have p409 : 0 ≤ (x48_3 : Int) := of_decide_eq_true (by assumption)
            have q409 : x48_3 < (t406.length : Int) := of_decide_eq_true (by assumption)
            obtain ⟨ad409, e409, hx409_0⟩ := Kd.at_int (Kd.R_reads' HO_46.out).2.2 x48_3 p409 q409
            cases e409
            replace p409 := eq_true p409
            replace q409 := eq_true q409
            have p410 : 0 ≤ (0 : Int) := (by omega)
            have q410 : 0 < (l0_0.length : Int) := of_decide_eq_true (by assumption)
            obtain ⟨ad410, e410, hx410_0⟩ := Kd.at_int HR0_0.out 0 p410 q410
            obtain rfl : ad405 = ad410 := (by injection e410)
            have qi410 : (0 < l0_0.length) = True := eq_true (by omega)
            (try rw [show ((0 : Int)).toNat = 0 from rfl] at hx410_0)
            (try rw [Addr.add_zero'] at hx410_0)
            (try replace hx410_0 := (HB.out.cell (World.block_lt_of_cell? w _ hx410_0)).trans hx410_0)
            replace p410 := eq_true p410
            replace q410 := eq_true q410
            go_wp2
            go_roundg k3
            case measure => have := HJ1.out; have := HK2.out; have := HK3.out; omega
            case rel => exact ⟨(wrap64 (x48_3 + 1)), (by first | rfl | (simp; done) | (simp [*]; done)), H', ⟨by have := HJ1.out; have := HK2.out; have := HK3.out; omega⟩, ⟨zR HO_46.out⟩, ⟨zk BK397.out⟩, ⟨by repeat (first | (with_reducible first | exact HB.out | apply below_alloc | apply pw_below_drewN | apply below_drew1 | refine below_set ?_ GE397.out) | exact HB.out)⟩⟩
          ·rw [if_neg c34] at H
           have c34b0 : decide (x48_3 < (t406.length : Int)) = false := decide_eq_false c34
           clear c34
           obtain rfl := Option.some.inj H
           go_wp2
           go_ret
           exact ⟨by first | rfl | (simp [errW_none, errW_some] <;> rfl) | (simp [*, errW_none, errW_some] <;> rfl), by repeat (first | (with_reducible first | exact HB.out | apply below_alloc | apply pw_below_drewN | apply below_drew1 | refine below_set ?_ GE397.out) | exact HB.out)⟩
       ·rw [if_neg c30] at H
        exact absurd H (by simp)

/-! ### impl_FromGens: function 70 -/
def impl_FromGens.l0 : Nat → List Int → Int → Int → List Int → Option (List Int × Bool)
 | 0, _, _, _, _ => none
 | k + 1, x13, x14, x15, x414000 => if x15 < x14 then (if 0 ≤ x15 then (if x15 < (x13.length : Int) then (if (x414000.length : Int) = 0 then (if x414000.length < 17592186044416 then (impl_FromGens.l0 k x13 x14 (wrap64 (x15 + 1)) (x414000 ++ [rd x13 x15])) else (none)) else ((impl_Generates.f k x414000 (rd x13 x15)).bind fun t421 => (if t421 = true then (impl_FromGens.l0 k x13 x14 (wrap64 (x15 + 1)) x414000) else (if x414000.length < 17592186044416 then (impl_FromGens.l0 k x13 x14 (wrap64 (x15 + 1)) (x414000 ++ [rd x13 x15])) else (none))))) else (none)) else (none)) else ((impl_IsSemigroup.f k x414000).bind fun t425 => (if t425 = true then (some (x414000, true)) else (some (([] : List Int), false))))
def impl_FromGens.f (k : Nat) (l0 : List Int) : Option (List Int × Bool) := (impl_usable.f k l0).bind fun t412 => (if t412 = true then ((impl_SortList.f l0).bind fun t414 => (impl_FromGens.l0 k t414 (t414.length : Int) 0 ([] : List Int))) else (some (([] : List Int), false)))
theorem impl_FromGens.mono_l : ∀ k, (∀ y0 y1 y2 y3, LeO (impl_FromGens.l0 k y0 y1 y2 y3) (impl_FromGens.l0 (k + 1) y0 y1 y2 y3))
 | 0 => fun _ _ _ _ r h => by simp [impl_FromGens.l0] at h
 | k + 1 => by
  have ih0 := impl_FromGens.mono_l k
  ·intro y0 y1 y2 y3
   unfold impl_FromGens.l0
   repeat' first
   | (with_reducible first | exact ih0 _ _ _ _ | exact impl_Generates.mono _ _ _ | exact impl_IsSemigroup.mono _ _ | exact impl_usable.mono _ _ | exact LeO.refl _ | exact LeO.none _ | refine LeO.ite ?_ ?_ | refine LeO.bind ?_ (fun _ => ?_))
   | exact LeO.none _
   | refine LeO.ite ?_ ?_
   | refine LeO.bind ?_ (fun _ => ?_)
theorem impl_FromGens.mono : ∀ a0 k, LeO (impl_FromGens.f k a0) (impl_FromGens.f (k + 1) a0) := by
 intro a0 k
 have ih0 := impl_FromGens.mono_l k
 unfold impl_FromGens.f
 repeat' first
   | (with_reducible first | exact ih0 _ _ _ _ | exact impl_Generates.mono _ _ _ | exact impl_IsSemigroup.mono _ _ | exact impl_usable.mono _ _ | exact LeO.refl _ | exact LeO.none _ | refine LeO.ite ?_ ?_ | refine LeO.bind ?_ (fun _ => ?_))
   | exact LeO.none _
   | refine LeO.ite ?_ ?_
   | refine LeO.bind ?_ (fun _ => ?_)
set_option maxHeartbeats 8000000 in
set_option maxRecDepth 100000 in
theorem impl_FromGens.calls (k : Nat) (A0 : Option Addr) (c0 : Nat) (l0 : List Int) (r1 : List Int) (r2 : Bool) (w : World) (hr0 : Kd.C (Kd.int .i64) w A0 l0.length l0) (hc0 : l0.length ≤ c0) (h : impl_FromGens.f k l0 = some (r1, r2)) :
  Calls Try.prog 70 #[.slice A0 l0.length c0] w fun e w' => ∃ v0_ : Value, e = .returned (.tuple #[.agg #[v0_], .bool r2]) ∧ Kd.R (Kd.int .i64) 3 w' w.heap.size (fun _ => True) v0_ r1 ∧ Below w.heap.size w w' := by
 have hu40 := Try.underlying40
 have HR0 := Aside0.mk hr0
 have HC0 := Aside0.mk hc0
 clear hr0 hc0
 have HB := Aside0.mk (Below.refl w.heap.size w)
 have H : ((impl_usable.f k l0).bind fun t412 => (if t412 = true then ((impl_SortList.f l0).bind fun t414 => (impl_FromGens.l0 k t414 (t414.length : Int) 0 ([] : List Int))) else (some (([] : List Int), false)))) = some (r1, r2) := h
 clear h
 obtain ⟨t412, A2, H⟩ := zb H
 have HU3 := Aside0.mk H
 clear H
 go_enter Try.func70, Try.ntmps70
 go_upto_if 9 with (first | ((with_reducible refine gate_dst (N := 2) rfl ?_); refine box_event ?hg (N := 2) ?hd (cs := #[.slice none 0 0]) (t := 40) ?hr ?_; (case hd => rfl); (case hg => rfl); (case hr => first | (go_simp; done) | (go_simp; rfl)); intro gb411 hg w4 hbox hb; have n0_ := Aside0.mk (below_step (zB HB.out) hb); have n1_ := Aside0.mk (hbox); have n2_ := Aside0.mk ((by rw [hg]; exact (zS HB.out) : w.heap.size ≤ gb411)); have n3_ := Aside0.mk ((by rw [hg]; exact (zS HB.out) : w.heap.size ≤ gb411)); clear HB; have HB := n0_; have BK411 := n1_; have GW411 := n2_; have GE411 := n3_; clear n0_ n1_ n2_ n3_; clear hb hbox hg) | ((with_reducible refine gate_callee (f := 136) rfl ?_); refine goesL_ (some 8) rfl rfl Try.func136 (by kernel_rfl) rfl #[.slice A0 l0.length c0] rfl (by (try simp only [za, zc, zn]); first | done | rfl | (simp only [List.length_drop, List.length_take]; rfl)) ?_; (with_reducible refine (impl_usable.calls k _ _ l0 t412 _ ?side1 ?side2 A2.out).mono ?_); (case side1 => exact zC (Kd.C_below HR0.out HB.out)); (case side2 => exact HC0.out); rintro e w5 ⟨rfl, hb⟩; refine ⟨_, rfl, ?_⟩; have n0_ := Aside0.mk (blk_below (g := gb411) (o := .cells #[.slice none 0 0] 40 (0, 0)) (zk BK411.out) hb); have n1_ := Aside0.mk (below_step (by repeat (first | (with_reducible first | exact HB.out | apply below_alloc | apply pw_below_drewN | apply below_drew1 | refine below_set ?_ GE411.out) | exact HB.out)) hb); clear BK411; clear HB; have BK411 := n0_; have HB := n1_; clear n0_ n1_; (try clear hb); (try clear hb2); (try clear hk); (try clear hi)))
 (try simp only [Act.put, List.setIfInBounds_toArray, List.set_cons_zero, List.set_cons_succ])
 have H := HU3.out
 clear HU3
 by_cases c6 : t412 = true
 ·subst c6
  rw [zT] at H
  obtain ⟨t414, A7, H⟩ := zb H
  have H' := Aside0.mk H
  clear H
  go_wp2_with (first | ((with_reducible refine gate_dst (N := 4) rfl ?_); refine box_event ?hg (N := 4) ?hd (cs := #[.slice none 0 0]) (t := 40) ?hr ?_; (case hd => rfl); (case hg => rfl); (case hr => first | (go_simp; done) | (go_simp; rfl)); intro gb413 hg w8 hbox hb; have n0_ := Aside0.mk (blk_below (g := gb411) (o := .cells #[.slice none 0 0] 40 (0, 0)) (zk BK411.out) hb); have n1_ := Aside0.mk (below_step (by repeat (first | (with_reducible first | exact HB.out | apply below_alloc | apply pw_below_drewN | apply below_drew1 | refine below_set ?_ GE411.out) | exact HB.out)) hb); have n2_ := Aside0.mk (hbox); have n3_ := Aside0.mk ((by rw [hg]; exact (below_size (by repeat (first | (with_reducible first | exact HB.out | apply below_alloc | apply pw_below_drewN | apply below_drew1 | refine below_set ?_ GE411.out) | exact HB.out))) : w.heap.size ≤ gb413)); have n4_ := Aside0.mk ((by rw [hg]; exact (below_size (by repeat (first | (with_reducible first | exact HB.out | apply below_alloc | apply pw_below_drewN | apply below_drew1 | refine below_set ?_ GE411.out) | exact HB.out))) : w.heap.size ≤ gb413)); have n5_ := Aside0.mk ((by rw [hg]; exact Nat.ne_of_lt (blk_lt (g := gb411) (o := .cells #[.slice none 0 0] 40 (0, 0)) (zk BK411.out)) : gb411 ≠ gb413)); have n6_ := Aside0.mk ((by rw [hg]; exact Nat.ne_of_gt (blk_lt (g := gb411) (o := .cells #[.slice none 0 0] 40 (0, 0)) (zk BK411.out)) : gb413 ≠ gb411)); clear BK411; clear HB; have BK411 := n0_; have HB := n1_; have BK413 := n2_; have GW413 := n3_; have GE413 := n4_; have NB411_413 := n5_; have NB413_411 := n6_; clear n0_ n1_ n2_ n3_ n4_ n5_ n6_; clear hb hbox hg; have hnb9 := NB413_411.out; have hnc9 := NB411_413.out; have hcz10_0 : w8.cell? ⟨gb413, 0, none⟩ = some (.slice none 0 0) := (blk_cell BK413.out 0).trans rfl; have hfz10_0 := blk_frozen BK413.out 0) | ((with_reducible refine gate_callee (f := 28) rfl ?_); refine goesL_ (some 13) rfl rfl Try.func28 (by kernel_rfl) rfl #[.slice A0 l0.length c0] rfl (by (try simp only [za, zc, zn]); first | done | rfl | (simp only [List.length_drop, List.length_take]; rfl)) ?_; (with_reducible refine (impl_SortList.calls _ _ l0 t414 _ ?side1 ?side2 A7.out).mono ?_); (case side1 => exact Kd.C_below HR0.out (by repeat (first | (with_reducible first | exact HB.out | apply below_alloc | apply pw_below_drewN | apply below_drew1 | refine below_set ?_ GE411.out | refine below_set ?_ GE413.out) | exact HB.out))); (case side2 => exact HC0.out); rintro e w11 ⟨v415, rfl, ho0, hb⟩; refine ⟨_, rfl, ?_⟩; have n0_ := Aside0.mk (Kd.R_lower ho0 (below_size (by repeat (first | (with_reducible first | exact HB.out | apply below_alloc | apply pw_below_drewN | apply below_drew1 | refine below_set ?_ GE411.out | refine below_set ?_ GE413.out) | exact HB.out)))); have n1_ := Aside0.mk (blk_below (g := gb411) (o := .cells #[.slice none 0 0] 40 (0, 0)) (by (with_reducible repeat (first | refine blk_drewN ?_ _ | refine blk_drew ?_ | refine blk_alloc ?_ _)); refine blk_far ?_ NB411_413.out _; (with_reducible repeat (first | refine blk_drewN ?_ _ | refine blk_drew ?_ | refine blk_alloc ?_ _)); exact BK411.out) hb); have n2_ := Aside0.mk (blk_below (g := gb413) (o := .cells #[.slice none 0 0] 40 (0, 0)) (by (with_reducible repeat (first | refine blk_drewN ?_ _ | refine blk_drew ?_ | refine blk_alloc ?_ _)); refine blk_put (cs := #[.slice none 0 0]) ?_ 0 _ rfl; (with_reducible repeat (first | refine blk_drewN ?_ _ | refine blk_drew ?_ | refine blk_alloc ?_ _)); exact BK413.out) hb); have n3_ := Aside0.mk (below_step (by repeat (first | (with_reducible first | exact HB.out | apply below_alloc | apply pw_below_drewN | apply below_drew1 | refine below_set ?_ GE411.out | refine below_set ?_ GE413.out) | exact HB.out)) hb); clear BK411; clear BK413; clear HB; have HO416 := n0_; have BK411 := n1_; have BK413 := n2_; have HB := n3_; clear n0_ n1_ n2_ n3_; (try clear hb); (try clear hb2); (try clear hk); (try clear hi); (try clear ho0); obtain ⟨Ao12, co12, eo12⟩ := Kd.R_slice HO416.out; subst eo12))
  go_loopg [15] k (fun kq v15 w' => ∃ (x15_1 : Int) (x414000_1 : List Int) (u414000 : Value), v15 = .int .i64 x15_1 ∧ Aside0 (impl_FromGens.l0 kq t414 (t414.length : Int) x15_1 x414000_1 = some (r1, r2)) ∧ Aside0 (kq ≤ k) ∧ Aside0 (Kd.R (Kd.int .i64) 3 w' w.heap.size (fun k_ => some k_ ≠ (u414000 : Value).ownBlock) (.slice Ao12 t414.length co12) t414) ∧ Aside0 (Kd.R (Kd.int .i64) 3 w' w.heap.size (fun k_ => some k_ ≠ ((.slice Ao12 t414.length co12) : Value).ownBlock) u414000 x414000_1) ∧ Aside0 (w'.heap[gb411]? = some (.cells #[(.slice none 0 0)] 40 (0, 0))) ∧ Aside0 (w'.heap[gb413]? = some (.cells #[u414000] 40 (0, 0))) ∧ Aside0 (Below w.heap.size w w'))
  case atStart => exact ⟨(0), (([] : List Int)), (.slice none 0 0), (by first | rfl | (simp; done) | (simp [*]; done)), H', ⟨Nat.le_refl _⟩, ⟨zR (Kd.R_mono HO416.out (fun _ hk => (by simp [Value.ownBlock])))⟩, ⟨by first | exact Kd.R_nil _ _ _ _ _ | exact Kd.N_nil _ _ _ _ _ | exact Kd.V_nil _ _ _ _ _ | exact Kd.Q_nil _ _ _ _ _ | exact Kd.S_nil _ _ _ _ _⟩, ⟨zk BK411.out⟩, ⟨zk BK413.out⟩, ⟨by repeat (first | (with_reducible first | exact HB.out | apply below_alloc | apply pw_below_drewN | apply below_drew1 | refine below_set ?_ GE411.out | refine below_set ?_ GE413.out) | exact HB.out)⟩⟩
  case round =>
   clear H'
   try clear c1
   try clear c2
   try clear p2
   try clear c6
   try clear c7
   try clear c9
   try clear hcz10_0
   try clear hfz10_0
   obtain ⟨x15_1, x414000_1, u414000, rfl, HA, HK1, HO_13, HO_414000, BK411, BK413, HB⟩ := hrel
   cases gk with
   | zero => exact absurd HA.out (by simp [impl_FromGens.l0])
   | succ k1 =>
    have H := HA.out
    clear HA
    simp only [impl_FromGens.l0] at H
    by_cases c13 : x15_1 < (t414.length : Int)
    ·rw [if_pos c13] at H
     have c13b0 : decide (x15_1 < (t414.length : Int)) = true := decide_eq_true c13
     clear c13
     (first | rw [c13b0] | rw [c13b1] | (simp only [i64_w, i32_w]; rw [c13b0]) | skip)
     obtain ⟨c14, H⟩ := zi H
     have c14b0 : decide (0 ≤ x15_1) = true := decide_eq_true c14
     clear c14
     obtain ⟨c15, H⟩ := zi H
     have c15b0 : decide (x15_1 < (t414.length : Int)) = true := decide_eq_true c15
     clear c15
     by_cases c16 : (x414000_1.length : Int) = 0
     ·rw [if_pos c16] at H
      have c16b0 : ((x414000_1.length : Int) == 0) = true := beq_iff_eq.mpr c16
      have c16b1 : ((x414000_1.length : Int) != 0) = false := bne_eq_false_iff_eq.mpr c16
      clear c16
      obtain ⟨c17, H⟩ := zi H
      have LMc17 := Aside0.mk c17
      clear c17
      obtain ⟨y418, hy418⟩ : ∃ y_ : List Int, y_ = (x414000_1 ++ [rd t414 x15_1]) := ⟨_, rfl⟩
      replace H : (impl_FromGens.l0 k1 t414 (t414.length : Int) (wrap64 (x15_1 + 1)) y418) = some (r1, r2) := by first | (rw [hy418]; with_reducible exact H) | (have H2_ := (Option.bind_some _ _).symm.trans H; rw [hy418]; with_reducible exact H2_) | (have H2_ := (Option.bind_some _ _).symm.trans H; with_reducible exact H2_) | with_reducible exact H | (rw [hy418]; exact H) | exact H
      have Ny418 := Aside0.mk hy418
      clear hy418
      have H' := Aside0.mk H
      clear H
      have p417 : 0 ≤ (x15_1 : Int) := of_decide_eq_true (by assumption)
      have q417 : x15_1 < (t414.length : Int) := of_decide_eq_true (by assumption)
      obtain ⟨ad417, e417, hx417_0⟩ := Kd.at_int (Kd.R_reads' HO_13.out).2.2 x15_1 p417 q417
      cases e417
      replace p417 := eq_true p417
      replace q417 := eq_true q417
      have hnb18 := NB413_411.out
      have hnc18 := NB411_413.out
      have hcz19_0 : wr.cell? ⟨gb413, 0, none⟩ = some (u414000) := (blk_cell BK413.out 0).trans rfl
      have hfz19_0 := blk_frozen BK413.out 0
      obtain ⟨Ao20, co20, eo20⟩ := Kd.R_slice HO_414000.out
      subst eo20
      go_wp2_with (first | ((with_reducible refine gate_builtin (b := .append) (xs := #[.tmp 31, .tmp 33]) rfl ?_); at_builtin; refine Kd.R_append (Kd.int .i64) (w0 := w) w.heap.size rfl (.tmp 31) (.tmp 33) 33 3 (.int .i64 0) 8 rfl Try.underlying33 info3 rfl (by decide) (by omega) (.slice Ao20 x414000_1.length co20) x414000_1 (rd t414 x15_1) [.int .i64 (rd t414 x15_1)] (fun k_ => some k_ ≠ (.slice (some ad417) t414.length co12 : Value).ownBlock) (fun _ => False) rfl rfl ?aP (fun _ hk => hk.elim) ?aF ?aO ?aB ?aS ?aL ?_; (case aP => exact rfl); (case aB => exact (by repeat (first | (with_reducible first | exact HB.out | apply below_alloc | apply pw_below_drewN | apply below_drew1 | refine below_set ?_ GE411.out | refine below_set ?_ GE413.out) | exact HB.out))); (case aF => exact (fun k_ hk => Kd.fresh' (Kd.R_lt (zR HO_13.out)) k_ hk)); (case aO => exact (zR HO_414000.out)); (case aS => exact (below_size (by repeat (first | (with_reducible first | exact HB.out | apply below_alloc | apply pw_below_drewN | apply below_drew1 | refine below_set ?_ GE411.out | refine below_set ?_ GE413.out) | exact HB.out)))); (case aL => have := LMc17.out; omega); intro v419 w21 ho hb hg hat; rw [← Ny418.out] at ho; have n0_ := Aside0.mk (Kd.R_after (ok := (fun _ => True)) (zR (Kd.R_mono HO_13.out (fun _ hk => ⟨trivial, by first | exact hk | (rw [qO] at hk ⊢; exact hk)⟩))) hg hat); have n1_ := Aside0.mk (blk_grown (g := gb411) (o := .cells #[.slice none 0 0] 40 (0, 0)) (zk BK411.out) hg (Kd.R_ne HO_414000.out BK411.out (by decide))); have n2_ := Aside0.mk (blk_grown (g := gb413) (o := .cells #[.slice Ao20 x414000_1.length co20] 40 (0, 0)) (zk BK413.out) hg (Kd.R_ne HO_414000.out BK413.out (by decide))); have n3_ := Aside0.mk (hb); have n4_ := Aside0.mk (ho); clear HO_13; clear BK411; clear BK413; clear HB; clear HO_414000; have HO_13 := n0_; have BK411 := n1_; have BK413 := n2_; have HB := n3_; have HO420 := n4_; clear n0_ n1_ n2_ n3_ n4_; clear ho hb hg hat; obtain ⟨Ao22, co22, eo22⟩ := Kd.R_slice HO420.out; subst eo22; have hcz23_0 : w21.cell? ⟨gb413, 0, none⟩ = some (.slice Ao20 x414000_1.length co20) := (blk_cell BK413.out 0).trans rfl; have hfz23_0 := blk_frozen BK413.out 0))
      go_roundg k1
      case measure => have := HK1.out; omega
      case rel => exact ⟨(wrap64 (x15_1 + 1)), (y418), (.slice Ao22 y418.length co22), (by first | rfl | (simp; done) | (simp [*]; done)), H', ⟨by have := HK1.out; omega⟩, ⟨zR (Kd.R_mono (Kd.R_far (p := ⟨gb413, 0, none⟩) (Kd.R_types HO_13.out BK413.out (by decide)) (fun _ hk => hk.2) (.slice Ao22 y418.length co22)) (fun _ hk => hk.1.2))⟩, ⟨zR (Kd.R_mono (Kd.R_far (p := ⟨gb413, 0, none⟩) (Kd.R_types HO420.out BK413.out (by decide)) (fun _ hk => hk.2) (.slice Ao22 y418.length co22)) (fun _ hk => hk.1))⟩, ⟨by (with_reducible repeat (first | refine blk_drewN ?_ _ | refine blk_drew ?_ | refine blk_alloc ?_ _)); refine blk_far ?_ NB411_413.out _; (with_reducible repeat (first | refine blk_drewN ?_ _ | refine blk_drew ?_ | refine blk_alloc ?_ _)); exact BK411.out⟩, ⟨by (with_reducible repeat (first | refine blk_drewN ?_ _ | refine blk_drew ?_ | refine blk_alloc ?_ _)); refine blk_put (cs := #[.slice Ao20 x414000_1.length co20]) ?_ 0 _ rfl; (with_reducible repeat (first | refine blk_drewN ?_ _ | refine blk_drew ?_ | refine blk_alloc ?_ _)); exact BK413.out⟩, ⟨by repeat (first | (with_reducible first | exact HB.out | apply below_alloc | apply pw_below_drewN | apply below_drew1 | refine below_set ?_ GE411.out | refine below_set ?_ GE413.out) | exact HB.out)⟩⟩
     ·rw [if_neg c16] at H
      have c16b0 : ((x414000_1.length : Int) == 0) = false := beq_eq_false_iff_ne.mpr c16
      have c16b1 : ((x414000_1.length : Int) != 0) = true := bne_iff_ne.mpr c16
      have c16b2 : ¬ (x414000_1 = []) := fun h_ => c16 (by rw [h_]; rfl)
      obtain ⟨t421, A24, H⟩ := zb H
      have HU25 := Aside0.mk H
      clear H
      have p417 : 0 ≤ (x15_1 : Int) := of_decide_eq_true (by assumption)
      have q417 : x15_1 < (t414.length : Int) := of_decide_eq_true (by assumption)
      obtain ⟨ad417, e417, hx417_0⟩ := Kd.at_int (Kd.R_reads' HO_13.out).2.2 x15_1 p417 q417
      cases e417
      replace p417 := eq_true p417
      replace q417 := eq_true q417
      have hnb26 := NB413_411.out
      have hnc26 := NB411_413.out
      have hcz27_0 : wr.cell? ⟨gb413, 0, none⟩ = some (u414000) := (blk_cell BK413.out 0).trans rfl
      have hfz27_0 := blk_frozen BK413.out 0
      obtain ⟨Ao28, co28, eo28⟩ := Kd.R_slice HO_414000.out
      subst eo28
      go_upto_if 29 with (first | (go_at_call 76; (with_reducible refine (impl_Generates.calls k1 _ _ x414000_1 (rd t414 x15_1) t421 _ ?side1 ?side2 A24.out).mono ?_); (case side1 => repeat (first | exact (Kd.R_reads' HO_414000.out).2.2 | (with_reducible refine Kd.C_alloc ?_ _) | (with_reducible refine Kd.C_drewN ?_ _) | (with_reducible refine Kd.C_drew ?_))); (case side2 => exact (Kd.R_reads' HO_414000.out).2.1); rintro e w29 ⟨rfl, hb⟩; have n0_ := Aside0.mk (Kd.R_below (zR HO_13.out) hb); have n1_ := Aside0.mk (Kd.R_below (zR HO_414000.out) hb); have n2_ := Aside0.mk (blk_below (g := gb411) (o := .cells #[.slice none 0 0] 40 (0, 0)) (zk BK411.out) hb); have n3_ := Aside0.mk (blk_below (g := gb413) (o := .cells #[.slice Ao28 x414000_1.length co28] 40 (0, 0)) (zk BK413.out) hb); have n4_ := Aside0.mk (below_step (by repeat (first | (with_reducible first | exact HB.out | apply below_alloc | apply pw_below_drewN | apply below_drew1 | refine below_set ?_ GE411.out | refine below_set ?_ GE413.out) | exact HB.out)) hb); clear HO_13; clear HO_414000; clear BK411; clear BK413; clear HB; have HO_13 := n0_; have HO_414000 := n1_; have BK411 := n2_; have BK413 := n3_; have HB := n4_; clear n0_ n1_ n2_ n3_ n4_; (try clear hb); (try clear hb2); (try clear hk); (try clear hi)))
      (try simp only [Act.put, List.setIfInBounds_toArray, List.set_cons_zero, List.set_cons_succ])
      have H := HU25.out
      clear HU25
      by_cases c30 : t421 = true
      ·subst c30
       rw [zT] at H
       have H' := Aside0.mk H
       clear H
       go_wp2
       go_roundg k1
       case measure => have := HK1.out; omega
       case rel => exact ⟨(wrap64 (x15_1 + 1)), (x414000_1), (.slice Ao28 x414000_1.length co28), (by first | rfl | (simp; done) | (simp [*]; done)), H', ⟨by have := HK1.out; omega⟩, ⟨zR HO_13.out⟩, ⟨zR HO_414000.out⟩, ⟨zk BK411.out⟩, ⟨zk BK413.out⟩, ⟨by repeat (first | (with_reducible first | exact HB.out | apply below_alloc | apply pw_below_drewN | apply below_drew1 | refine below_set ?_ GE411.out | refine below_set ?_ GE413.out) | exact HB.out)⟩⟩
      ·replace c30 := Bool.eq_false_iff.mpr c30
       subst c30
       rw [zF] at H
       obtain ⟨c31, H⟩ := zi H
       have LMc31 := Aside0.mk c31
       clear c31
       obtain ⟨y422, hy422⟩ : ∃ y_ : List Int, y_ = (x414000_1 ++ [rd t414 x15_1]) := ⟨_, rfl⟩
       replace H : (impl_FromGens.l0 k1 t414 (t414.length : Int) (wrap64 (x15_1 + 1)) y422) = some (r1, r2) := by first | (rw [hy422]; with_reducible exact H) | (have H2_ := (Option.bind_some _ _).symm.trans H; rw [hy422]; with_reducible exact H2_) | (have H2_ := (Option.bind_some _ _).symm.trans H; with_reducible exact H2_) | with_reducible exact H | (rw [hy422]; exact H) | exact H
       have Ny422 := Aside0.mk hy422
       clear hy422
       have H' := Aside0.mk H
       clear H
       have hnb32 := NB413_411.out
       have hnc32 := NB411_413.out
       have hcz33_0 : w29.cell? ⟨gb413, 0, none⟩ = some (.slice Ao28 x414000_1.length co28) := (blk_cell BK413.out 0).trans rfl
       have hfz33_0 := blk_frozen BK413.out 0
       go_wp2_with (first | ((with_reducible refine gate_builtin (b := .append) (xs := #[.tmp 31, .tmp 33]) rfl ?_); at_builtin; refine Kd.R_append (Kd.int .i64) (w0 := w) w.heap.size rfl (.tmp 31) (.tmp 33) 33 3 (.int .i64 0) 8 rfl Try.underlying33 info3 rfl (by decide) (by omega) (.slice Ao28 x414000_1.length co28) x414000_1 (rd t414 x15_1) [.int .i64 (rd t414 x15_1)] (fun k_ => some k_ ≠ (.slice (some ad417) t414.length co12 : Value).ownBlock) (fun _ => False) rfl rfl ?aP (fun _ hk => hk.elim) ?aF ?aO ?aB ?aS ?aL ?_; (case aP => exact rfl); (case aB => exact (by repeat (first | (with_reducible first | exact HB.out | apply below_alloc | apply pw_below_drewN | apply below_drew1 | refine below_set ?_ GE411.out | refine below_set ?_ GE413.out) | exact HB.out))); (case aF => exact (fun k_ hk => Kd.fresh' (Kd.R_lt (zR HO_13.out)) k_ hk)); (case aO => exact (zR HO_414000.out)); (case aS => exact (below_size (by repeat (first | (with_reducible first | exact HB.out | apply below_alloc | apply pw_below_drewN | apply below_drew1 | refine below_set ?_ GE411.out | refine below_set ?_ GE413.out) | exact HB.out)))); (case aL => have := LMc31.out; omega); intro v423 w34 ho hb hg hat; rw [← Ny422.out] at ho; have n0_ := Aside0.mk (Kd.R_after (ok := (fun _ => True)) (zR (Kd.R_mono HO_13.out (fun _ hk => ⟨trivial, by first | exact hk | (rw [qO] at hk ⊢; exact hk)⟩))) hg hat); have n1_ := Aside0.mk (blk_grown (g := gb411) (o := .cells #[.slice none 0 0] 40 (0, 0)) (zk BK411.out) hg (Kd.R_ne HO_414000.out BK411.out (by decide))); have n2_ := Aside0.mk (blk_grown (g := gb413) (o := .cells #[.slice Ao28 x414000_1.length co28] 40 (0, 0)) (zk BK413.out) hg (Kd.R_ne HO_414000.out BK413.out (by decide))); have n3_ := Aside0.mk (hb); have n4_ := Aside0.mk (ho); clear HO_13; clear BK411; clear BK413; clear HB; clear HO_414000; have HO_13 := n0_; have BK411 := n1_; have BK413 := n2_; have HB := n3_; have HO424 := n4_; clear n0_ n1_ n2_ n3_ n4_; clear ho hb hg hat; obtain ⟨Ao35, co35, eo35⟩ := Kd.R_slice HO424.out; subst eo35; have hcz36_0 : w34.cell? ⟨gb413, 0, none⟩ = some (.slice Ao28 x414000_1.length co28) := (blk_cell BK413.out 0).trans rfl; have hfz36_0 := blk_frozen BK413.out 0))
       go_roundg k1
       case measure => have := HK1.out; omega
       case rel => exact ⟨(wrap64 (x15_1 + 1)), (y422), (.slice Ao35 y422.length co35), (by first | rfl | (simp; done) | (simp [*]; done)), H', ⟨by have := HK1.out; omega⟩, ⟨zR (Kd.R_mono (Kd.R_far (p := ⟨gb413, 0, none⟩) (Kd.R_types HO_13.out BK413.out (by decide)) (fun _ hk => hk.2) (.slice Ao35 y422.length co35)) (fun _ hk => hk.1.2))⟩, ⟨zR (Kd.R_mono (Kd.R_far (p := ⟨gb413, 0, none⟩) (Kd.R_types HO424.out BK413.out (by decide)) (fun _ hk => hk.2) (.slice Ao35 y422.length co35)) (fun _ hk => hk.1))⟩, ⟨by (with_reducible repeat (first | refine blk_drewN ?_ _ | refine blk_drew ?_ | refine blk_alloc ?_ _)); refine blk_far ?_ NB411_413.out _; (with_reducible repeat (first | refine blk_drewN ?_ _ | refine blk_drew ?_ | refine blk_alloc ?_ _)); exact BK411.out⟩, ⟨by (with_reducible repeat (first | refine blk_drewN ?_ _ | refine blk_drew ?_ | refine blk_alloc ?_ _)); refine blk_put (cs := #[.slice Ao28 x414000_1.length co28]) ?_ 0 _ rfl; (with_reducible repeat (first | refine blk_drewN ?_ _ | refine blk_drew ?_ | refine blk_alloc ?_ _)); exact BK413.out⟩, ⟨by repeat (first | (with_reducible first | exact HB.out | apply below_alloc | apply pw_below_drewN | apply below_drew1 | refine below_set ?_ GE411.out | refine below_set ?_ GE413.out) | exact HB.out)⟩⟩
    ·rw [if_neg c13] at H
     have c13b0 : decide (x15_1 < (t414.length : Int)) = false := decide_eq_false c13
     clear c13
     (first | rw [c13b0] | rw [c13b1] | (simp only [i64_w, i32_w]; rw [c13b0]) | skip)
     obtain ⟨t425, A37, H⟩ := zb H
     have HU38 := Aside0.mk H
     clear H
     have hnb39 := NB413_411.out
     have hnc39 := NB411_413.out
     have hcz40_0 : wr.cell? ⟨gb413, 0, none⟩ = some (u414000) := (blk_cell BK413.out 0).trans rfl
     have hfz40_0 := blk_frozen BK413.out 0
     obtain ⟨Ao41, co41, eo41⟩ := Kd.R_slice HO_414000.out
     subst eo41
     go_upto_if 39 with (first | ((with_reducible refine gate_callee (f := 79) rfl ?_); refine goesL_ (some 38) rfl rfl Try.func79 (by kernel_rfl) rfl #[.agg #[.slice Ao41 x414000_1.length co41]] rfl (by (try simp only [za, zc, zn]); first | done | rfl | (simp only [List.length_drop, List.length_take]; rfl)) ?_; (with_reducible refine (impl_IsSemigroup.calls k1 _ _ x414000_1 t425 _ ?side1 ?side2 A37.out).mono ?_); (case side1 => repeat (first | exact (Kd.R_reads' HO_414000.out).2.2 | (with_reducible refine Kd.C_alloc ?_ _) | (with_reducible refine Kd.C_drewN ?_ _) | (with_reducible refine Kd.C_drew ?_))); (case side2 => exact (Kd.R_reads' HO_414000.out).2.1); rintro e w42 ⟨rfl, hb⟩; refine ⟨_, rfl, ?_⟩; have n0_ := Aside0.mk (Kd.R_below (zR HO_13.out) hb); have n1_ := Aside0.mk (Kd.R_below (zR HO_414000.out) hb); have n2_ := Aside0.mk (blk_below (g := gb411) (o := .cells #[.slice none 0 0] 40 (0, 0)) (zk BK411.out) hb); have n3_ := Aside0.mk (blk_below (g := gb413) (o := .cells #[.slice Ao41 x414000_1.length co41] 40 (0, 0)) (zk BK413.out) hb); have n4_ := Aside0.mk (below_step (by repeat (first | (with_reducible first | exact HB.out | apply below_alloc | apply pw_below_drewN | apply below_drew1 | refine below_set ?_ GE411.out | refine below_set ?_ GE413.out) | exact HB.out)) hb); clear HO_13; clear HO_414000; clear BK411; clear BK413; clear HB; have HO_13 := n0_; have HO_414000 := n1_; have BK411 := n2_; have BK413 := n3_; have HB := n4_; clear n0_ n1_ n2_ n3_ n4_; (try clear hb); (try clear hb2); (try clear hk); (try clear hi)))
     (try simp only [Act.put, List.setIfInBounds_toArray, List.set_cons_zero, List.set_cons_succ])
     have H := HU38.out
     clear HU38
     by_cases c43 : t425 = true
     ·subst c43
      rw [zT] at H
      simp only [Option.some.injEq, Prod.mk.injEq] at H
      obtain ⟨rfl, rfl⟩ := H
      have hnb44 := NB413_411.out
      have hnc44 := NB411_413.out
      have hcz45_0 : w42.cell? ⟨gb413, 0, none⟩ = some (.slice Ao41 x414000_1.length co41) := (blk_cell BK413.out 0).trans rfl
      have hfz45_0 := blk_frozen BK413.out 0
      have hcz46_0 : w42.cell? ⟨gb411, 0, none⟩ = some (.slice none 0 0) := (blk_cell BK411.out 0).trans rfl
      have hfz46_0 := blk_frozen BK411.out 0
      go_wp2
      refine bodyPost_ret (results_ct rfl _ _ gb411 40 #[.slice Ao41 x414000_1.length co41] (0, 0) _ rfl (by (with_reducible repeat (first | refine blk_drewN ?_ _ | refine blk_drew ?_ | refine blk_alloc ?_ _)); refine blk_put (cs := #[.slice none 0 0]) ?_ 0 _ rfl; (with_reducible repeat (first | refine blk_drewN ?_ _ | refine blk_drew ?_ | refine blk_alloc ?_ _)); exact BK411.out) Try.underlying40 rfl (by kernel_rfl)) rfl ?_
      exact ⟨_, by first | rfl | (simp [errW_none, errW_some] <;> rfl) | (simp [*, errW_none, errW_some] <;> rfl), zR (Kd.R_mono (Kd.R_far (p := ⟨gb411, 0, none⟩) (Kd.R_types HO_414000.out BK411.out (by decide)) (fun _ hk => hk.2) (.slice Ao41 x414000_1.length co41)) (fun _ hk => trivial)), by repeat (first | (with_reducible first | exact HB.out | apply below_alloc | apply pw_below_drewN | apply below_drew1 | refine below_set ?_ GE411.out | refine below_set ?_ GE413.out) | exact HB.out)⟩
     ·replace c43 := Bool.eq_false_iff.mpr c43
      subst c43
      rw [zF] at H
      simp only [Option.some.injEq, Prod.mk.injEq] at H
      obtain ⟨rfl, rfl⟩ := H
      have hnb47 := NB411_413.out
      have hnc47 := NB413_411.out
      have hcz48_0 : w42.cell? ⟨gb411, 0, none⟩ = some (.slice none 0 0) := (blk_cell BK411.out 0).trans rfl
      have hfz48_0 := blk_frozen BK411.out 0
      go_wp2
      refine bodyPost_ret (results_ct rfl _ _ gb411 40 #[.slice none 0 0] (0, 0) _ rfl (by (with_reducible repeat (first | refine blk_drewN ?_ _ | refine blk_drew ?_ | refine blk_alloc ?_ _)); refine blk_put (cs := #[.slice none 0 0]) ?_ 0 _ rfl; (with_reducible repeat (first | refine blk_drewN ?_ _ | refine blk_drew ?_ | refine blk_alloc ?_ _)); exact BK411.out) Try.underlying40 rfl (by kernel_rfl)) rfl ?_
      exact ⟨_, by first | rfl | (simp [errW_none, errW_some] <;> rfl) | (simp [*, errW_none, errW_some] <;> rfl), by first | exact Kd.R_nil _ _ _ _ _ | exact Kd.N_nil _ _ _ _ _ | exact Kd.V_nil _ _ _ _ _ | exact Kd.Q_nil _ _ _ _ _ | exact Kd.S_nil _ _ _ _ _, by repeat (first | (with_reducible first | exact HB.out | apply below_alloc | apply pw_below_drewN | apply below_drew1 | refine below_set ?_ GE411.out | refine below_set ?_ GE413.out) | exact HB.out)⟩
 ·replace c6 := Bool.eq_false_iff.mpr c6
  subst c6
  rw [zF] at H
  simp only [Option.some.injEq, Prod.mk.injEq] at H
  obtain ⟨rfl, rfl⟩ := H
  have hcz49_0 : w5.cell? ⟨gb411, 0, none⟩ = some (.slice none 0 0) := (blk_cell BK411.out 0).trans rfl
  have hfz49_0 := blk_frozen BK411.out 0
  go_wp2
  refine bodyPost_ret (results_ct rfl _ _ gb411 40 #[.slice none 0 0] (0, 0) _ rfl (by (with_reducible repeat (first | refine blk_drewN ?_ _ | refine blk_drew ?_ | refine blk_alloc ?_ _)); refine blk_put (cs := #[.slice none 0 0]) ?_ 0 _ rfl; (with_reducible repeat (first | refine blk_drewN ?_ _ | refine blk_drew ?_ | refine blk_alloc ?_ _)); exact BK411.out) Try.underlying40 rfl (by kernel_rfl)) rfl ?_
  exact ⟨_, by first | rfl | (simp [errW_none, errW_some] <;> rfl) | (simp [*, errW_none, errW_some] <;> rfl), by first | exact Kd.R_nil _ _ _ _ _ | exact Kd.N_nil _ _ _ _ _ | exact Kd.V_nil _ _ _ _ _ | exact Kd.Q_nil _ _ _ _ _ | exact Kd.S_nil _ _ _ _ _, by repeat (first | (with_reducible first | exact HB.out | apply below_alloc | apply pw_below_drewN | apply below_drew1 | refine below_set ?_ GE411.out) | exact HB.out)⟩

end Go.Proofs.Ytbagfnppeidonaa.PFnExactFromGens
