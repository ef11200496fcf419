-- Written by a program of this session (a turned copy of the kit's print; see NOTES.md).
import Derived.Test.YtbagfnppeidonaaPFnSymmetryx0
import Derived.Test.YtbagfnppeidonaaPFnSymmetryx10
import Derived.Test.YtbagfnppeidonaaPFnSymmetryx12
namespace Go.Proofs.Ytbagfnppeidonaa.PFnSymmetry
open Go.RowKit Go.Proofs.YtbagfnppeidonaaW.PrintWords Go.Proofs.YtbagfnppeidonaaW.PrintLast Go.Proofs.YtbagfnppeidonaaW.PrintMore
attribute [local go_sem] max2_int min2_int max_two min_two max_three min_three max_four min_four   -- for this text's walks alone
set_option linter.unusedVariables false
set_option linter.unusedSimpArgs false

/-! ### impl_table: function 117 -/
def impl_table.l0 : Nat → List Int → List Bool → Int → Int → List Int → Option (List Bool)
 | 0, _, _, _, _, _ => none
 | k + 1, x5, x6, x19, x20, x432000 => if x20 < x19 then (if 0 < (x432000.length : Int) then (if (rd x432000 0) = 0 then (none) else (if 0 ≤ (Int.tmod x20 (rd x432000 0)) then (if (Int.tmod x20 (rd x432000 0)) < (x5.length : Int) then (if 0 ≤ x20 then (if x20 < (x6.length : Int) then (impl_table.l0 k x5 (x6.set (x20 : Int).toNat (decide ((rd x5 (Int.tmod x20 (rd x432000 0))) ≤ x20))) x19 (wrap64 (x20 + 1)) x432000) else (none)) else (none)) else (none)) else (none))) else (none)) else (some x6)
def impl_table.f (k : Nat) (l0_0 : List Int) (a1 : Int) : Option (List Bool) := if 0 < (l0_0.length : Int) then ((impl_leasts.f k l0_0 (rd l0_0 0)).bind fun t433 => (if 0 ≤ (wrap64 (a1 + 1)) then (if (wrap64 (a1 + 1) : Int).toNat ≤ 281474976710656 then ((some (List.replicate (wrap64 (a1 + 1) : Int).toNat false : List Bool)).bind fun y436 => (impl_table.l0 k t433 y436 (y436.length : Int) 0 l0_0)) else (none)) else (none))) else (none)
theorem impl_table.mono_l : ∀ k, (∀ y0 y1 y2 y3 y4, LeO (impl_table.l0 k y0 y1 y2 y3 y4) (impl_table.l0 (k + 1) y0 y1 y2 y3 y4))
 | 0 => fun _ _ _ _ _ r h => by simp [impl_table.l0] at h
 | k + 1 => by
  have ih0 := impl_table.mono_l k
  ·intro y0 y1 y2 y3 y4
   unfold impl_table.l0
   repeat' first
   | (with_reducible first | exact ih0 _ _ _ _ _ | exact impl_leasts.mono _ _ _ | exact LeO.refl _ | exact LeO.none _ | refine LeO.ite ?_ ?_ | refine LeO.bind ?_ (fun _ => ?_))
   | exact LeO.none _
   | refine LeO.ite ?_ ?_
   | refine LeO.bind ?_ (fun _ => ?_)
theorem impl_table.mono : ∀ a0 a1 k, LeO (impl_table.f k a0 a1) (impl_table.f (k + 1) a0 a1) := by
 intro a0 a1 k
 have ih0 := impl_table.mono_l k
 unfold impl_table.f
 repeat' first
   | (with_reducible first | exact ih0 _ _ _ _ _ | exact impl_leasts.mono _ _ _ | exact LeO.refl _ | exact LeO.none _ | refine LeO.ite ?_ ?_ | refine LeO.bind ?_ (fun _ => ?_))
   | exact LeO.none _
   | refine LeO.ite ?_ ?_
   | refine LeO.bind ?_ (fun _ => ?_)
def impl_table.T1 : Bool × List (List Nat × List Nat) := (true, [([], []), ([0], [0]), ([], []), ([2], [2]), ([3], [3]), ([4], [4]), ([1, 5], [1, 5]), ([6, 6, 0, 1, 2, 3, 4, 5, 6], [6])])
def impl_table.B1 : List Nat := [0, 1, 0, 4, 12, 28, 63, 127]
theorem impl_table.tab1 : rtab .any (opsOf Try.f117 1) = impl_table.T1 := by kernel_rfl
theorem impl_table.bits1 : waitsOk impl_table.T1.2 impl_table.B1 = true := by kernel_rfl
set_option maxHeartbeats 8000000 in
set_option maxRecDepth 100000 in
theorem impl_table.calls (k : Nat) (A0_0 : Option Addr) (c0_0 : Nat) (l0_0 : List Int) (a1 : Int) (r : List Bool) (w : World) (hr0_0 : Kd.C (Kd.int .i64) w A0_0 l0_0.length l0_0) (hc0_0 : l0_0.length ≤ c0_0) (h : impl_table.f k l0_0 a1 = some r) :
  Calls Try.prog 117 #[.agg #[.slice A0_0 l0_0.length c0_0], .int .i64 a1] w fun e w' => ∃ v0_ : Value, e = .returned (v0_) ∧ Kd.R Kd.bool 4 w' w.heap.size (fun _ => True) v0_ r ∧ Below w.heap.size w w' := by
 have hu40 := Try.underlying40
 have HR0_0 := Aside0.mk hr0_0
 have HC0_0 := Aside0.mk hc0_0
 clear hr0_0 hc0_0
 have HB := Aside0.mk (Below.refl w.heap.size w)
 have H : (if 0 < (l0_0.length : Int) then ((impl_leasts.f k l0_0 (rd l0_0 0)).bind fun t433 => (if 0 ≤ (wrap64 (a1 + 1)) then (if (wrap64 (a1 + 1) : Int).toNat ≤ 281474976710656 then ((some (List.replicate (wrap64 (a1 + 1) : Int).toNat false : List Bool)).bind fun y436 => (impl_table.l0 k t433 y436 (y436.length : Int) 0 l0_0)) else (none)) else (none))) else (none)) = some r := h
 clear h
 by_cases c3 : 0 < (l0_0.length : Int)
 ·rw [if_pos c3] at H
  have c3b0 : decide (0 < (l0_0.length : Int)) = true := decide_eq_true c3
  have c3b1 : decide (0 < l0_0.length) = true := decide_eq_true (by omega)
  clear c3
  obtain ⟨t433, A4, H⟩ := zb H
  obtain ⟨ji5, hji5⟩ : ∃ j_ : Int, (wrap64 (a1 + 1)) = j_ := ⟨_, rfl⟩
  replace H : (if 0 ≤ (ji5) then (if (ji5 : Int).toNat ≤ 281474976710656 then ((some (List.replicate (ji5 : Int).toNat false : List Bool)).bind fun y436 => (impl_table.l0 k t433 y436 (y436.length : Int) 0 l0_0)) else (none)) else (none)) = some r := by first | (rw [hji5] at H; exact H) | (simp only [hji5] at H ⊢; exact H)
  (try rw [hji5] at A4)
  have hji5w : (IntKind.i64.wrap (a1 + 1)) = ji5 := (i64_w _).trans hji5
  obtain ⟨c6, H⟩ := zi H
  have c6b0 := eq_true c6
  have c6b1 : decide (0 ≤ (ji5)) = true := decide_eq_true c6
  clear c6
  obtain ⟨c7, H⟩ := zi H
  have c7b0 := eq_true c7
  have c7b1 : decide ((ji5 : Int).toNat ≤ 281474976710656) = true := decide_eq_true c7
  clear c7
  obtain ⟨y436, Ny436⟩ : ∃ y_ : List Bool, Aside0 (y_ = (List.replicate (ji5 : Int).toNat false)) := ⟨_, ⟨rfl⟩⟩
  (try rw [Option.bind_some] at H)
  (try rw [← Ny436.out] at H)
  have H' := Aside0.mk H
  clear H
  go_enter Try.func117, Try.ntmps117
  try go_wp2_with (first | ((with_reducible refine gate_dst (N := 2) rfl ?_); refine box_event ?hg (N := 2) ?hd (cs := #[.slice A0_0 l0_0.length c0_0]) (t := 40) ?hr ?_; (case hd => rfl); (case hg => rfl); (case hr => first | (go_simp; done) | (go_simp; rfl)); intro gb431 hg w8 hbox hb; have n0_ := Aside0.mk (below_step (zB HB.out) hb); have n1_ := Aside0.mk (hbox); have n2_ := Aside0.mk ((by rw [hg]; exact (zS HB.out) : w.heap.size ≤ gb431)); have n3_ := Aside0.mk ((by rw [hg]; exact (zS HB.out) : w.heap.size ≤ gb431)); clear HB; have HB := n0_; have BK431 := n1_; have GW431 := n2_; have GE431 := n3_; clear n0_ n1_ n2_ n3_; clear hb hbox hg))
  have n0_ := Aside0.mk (blk_drew BK431.out)
  have n1_ := Aside0.mk (below_drew1 HB.out)
  clear BK431
  clear HB
  have BK431 := n0_
  have HB := n1_
  clear n0_ n1_
  have p432 : 0 ≤ (0 : Int) := (by omega)
  have q432 : 0 < (l0_0.length : Int) := of_decide_eq_true (by assumption)
  obtain ⟨ad432, e432, hx432_0⟩ := Kd.at_int HR0_0.out 0 p432 q432
  have hw432_0 := hx432_0
  (try rw [show ((0 : Int)).toNat = 0 from rfl] at hw432_0)
  (try rw [show 0 * 1 = 0 from rfl] at hw432_0)
  (try rw [Addr.add_zero'] at hw432_0)
  cases e432
  have qi432 : (0 < l0_0.length) = True := eq_true (by omega)
  (try rw [show ((0 : Int)).toNat = 0 from rfl] at hx432_0)
  (try rw [Addr.add_zero'] at hx432_0)
  (try replace hx432_0 := (HB.out.cell (World.block_lt_of_cell? w _ hx432_0)).trans hx432_0)
  replace p432 := eq_true p432
  replace q432 := eq_true q432
  refine start_ (n := 8) (S := fun w' => w'.cell? ⟨gb431, 0, none⟩ = some (.slice (some ad432) l0_0.length c0_0) ∧ w'.cell? ad432 = some (.int .i64 (rd l0_0 0))) (ds := []) bA7 (by kernel_rfl) rfl rfl ⟨(blk_cell BK431.out 0).trans rfl, ((HB.out.cell (World.block_lt_of_cell? w _ hw432_0)).trans hw432_0)⟩ (fun hHeld => ?_); refine with_tabW impl_table.tab1 impl_table.bits1 (fun HT_ HW_ => ?_)
  generalize w8.drew = w9 at BK431 HB hx432_0 hHeld ⊢
  refine pure_ (i := 0) (N := some 8) (v := ?_) (a' := ?_) bA14 rfl rfl (any_of HT_.out (by kernel_rfl)) (fun _ _ _ h => h) (Or.inl ⟨by rfl, ?_⟩) ?_ ?_
  rotate_left
  ·intro w'
   go_simp
   with_reducible rfl
  rotate_left
  ·simp only [Act.put, qA, qB, qC, i64_w, i32_w]
   rfl
  refine pure_ (i := 2) (N := some 10) (v := ?_) (a' := ?_) #[true, false, true, false, false, false, false, false] rfl rfl (any_of HT_.out (by kernel_rfl)) (fun _ _ _ h => h) (Or.inl ⟨by rfl, ?_⟩) ?_ ?_
  rotate_left
  ·intro w'
   go_simp
   with_reducible rfl
  rotate_left
  ·simp only [Act.put, qA, qB, qC, i64_w, i32_w]
   rfl
  refine take_ (i := 1) (N := some 9) (v := ?_) (a' := ?_) bA27 rfl rfl (take_ofW HT_.out HW_.out (by kernel_rfl)) (fun _ _ _ h => h) (Or.inl ⟨by rfl, ?_⟩) hHeld ?_ ?_
  rotate_left
  ·rintro w' ⟨s0, s1⟩
   go_simp
   with_reducible rfl
  rotate_left
  ·simp only [Act.put, qA, qB, qC, i64_w, i32_w]
   rfl
  refine take_ (i := 3) (N := some 11) (v := ?_) (a' := ?_) bA36 rfl rfl (take_ofW HT_.out HW_.out (by kernel_rfl)) (fun _ _ _ h => h) (Or.inl ⟨by rfl, ?_⟩) hHeld ?_ ?_
  rotate_left
  ·rintro w' ⟨s0, s1⟩
   go_simp
   with_reducible rfl
  rotate_left
  ·simp only [Act.put, qA, qB, qC, i64_w, i32_w]
   rfl
  refine pure_ (i := 4) (N := some 12) (v := ?_) (a' := ?_) bA44 rfl rfl (any_of HT_.out (by kernel_rfl)) (fun _ _ _ h => h) (Or.inl ⟨by rfl, ?_⟩) ?_ ?_
  rotate_left
  ·intro w'
   go_simp
   with_reducible rfl
  rotate_left
  ·simp only [Act.put, qA, qB, qC, i64_w, i32_w]
   rfl
  refine take_ (i := 5) (N := some 13) (v := ?_) (a' := ?_) bA50 rfl rfl (take_ofW HT_.out HW_.out (by kernel_rfl)) (fun _ _ _ h => h) (Or.inl ⟨by rfl, ?_⟩) hHeld ?_ ?_
  rotate_left
  ·rintro w' ⟨s0, s1⟩
   go_simp
   with_reducible rfl
  rotate_left
  ·simp only [Act.put, qA, qB, qC, i64_w, i32_w]
   rfl
  refine one_ (i := 6) (N := some 14) bA59 rfl rfl (one_of HT_.out (by kernel_rfl)) (by decide) (fun K hK => ?_)
  refine goes_ Try.func129 (by kernel_rfl) rfl #[.slice (some ad432) l0_0.length c0_0, .int .i64 (rd l0_0 0)] (by rfl) rfl rfl (by (try simp only [za, zc, zn]); first | done | rfl) ?_
  with_reducible refine (impl_leasts.calls k _ _ l0_0 (rd l0_0 0) t433 _ ?side1 ?side2 A4.out).mono ?_
  (case side1 => exact zC (Kd.C_below HR0_0.out HB.out))
  (case side2 => exact HC0_0.out)
  rintro e w10 ⟨v434, rfl, ho0, hb⟩
  refine ⟨_, rfl, ?_⟩
  have n0_ := Aside0.mk (Kd.R_lower ho0 (zS HB.out))
  have n1_ := Aside0.mk (blk_below (g := gb431) (o := .cells #[.slice (some ad432) l0_0.length c0_0] 40 (0, 0)) (zk BK431.out) hb)
  have n2_ := Aside0.mk (below_step (zB HB.out) hb)
  clear BK431
  clear HB
  have HO435 := n0_
  have BK431 := n1_
  have HB := n2_
  clear n0_ n1_ n2_
  (try clear hb)
  (try clear hb2)
  (try clear hk)
  (try clear hi)
  (try clear ho0)
  refine hK.out _ _ ⟨(blk_cell BK431.out 0).trans rfl, ((HB.out.cell (World.block_lt_of_cell? w _ hw432_0)).trans hw432_0)⟩ (fun hHeld => ?_)
  clear hK K
  refine norm_ (a' := ?_) ?_ ?_
  rotate_left
  ·show Act.put _ (some 14) _ = _
   simp only [Act.put, qA, qB, qC, i64_w, i32_w]
   rfl
  refine pure_ (i := 7) (N := some 5) (v := ?_) (a' := ?_) bA118 rfl rfl (any_of HT_.out (by kernel_rfl)) (fun _ _ _ h => h) (Or.inl ⟨by rfl, ?_⟩) ?_ ?_
  rotate_left
  ·intro w'
   go_simp
   with_reducible rfl
  rotate_left
  ·simp only [Act.put, qA, qB, qC, i64_w, i32_w]
   rfl
  refine done_ (done_of HT_.out (by kernel_rfl)) ?_
  try go_wp2_with (first | ((with_reducible refine gate_dst (N := 17) rfl ?_); refine Kd.R_make Kd.bool _ 4 rfl (N := 17) rfl 71 _ _ rfl ji5 rfl rfl Try.underlying71 (.bool false) 1 info4 rfl (by decide) (by omega) false (ok := fun _ => True) (okp := fun _ => True) rfl (fun _ hk => hk) trivial (of_decide_eq_true (by assumption)) (Nat.le_trans (Nat.mul_le_mul_right _ (of_decide_eq_true (by assumption) : ji5.toNat ≤ 281474976710656)) (by omega)) (Below.refl _ _) (Nat.le_refl _) ?_; intro v437 w11 ho12 hb hg_ hnew_; clear hg_ hnew_; (first | rw [← Ny436.out] at ho12 | (simp only [Int.reduceToNat] at ho12; rw [← Ny436.out] at ho12)); have n0_ := Aside0.mk (Kd.R_below (zR HO435.out) hb); have n1_ := Aside0.mk (Kd.R_lower ho12 (zS HB.out)); have n2_ := Aside0.mk (blk_below (g := gb431) (o := .cells #[.slice (some ad432) l0_0.length c0_0] 40 (0, 0)) (zk BK431.out) hb); have n3_ := Aside0.mk (below_step (zB HB.out) hb); clear HO435; clear BK431; clear HB; have HO435 := n0_; have HO438 := n1_; have BK431 := n2_; have HB := n3_; clear n0_ n1_ n2_ n3_; clear hb ho12; obtain ⟨Ao13, co13, eo13⟩ := Kd.R_slice HO438.out; subst eo13))
  go_loopg [20] k (fun kq v20 w' => ∃ (x6_1 : List Bool) (x20_1 : Int), v20 = .int .i64 x20_1 ∧ Aside0 (impl_table.l0 kq t433 x6_1 (y436.length : Int) x20_1 l0_0 = some r) ∧ Aside0 (kq ≤ k) ∧ Aside0 (Kd.R (Kd.int .i64) 3 w' w.heap.size (fun _ => True) v434 t433) ∧ Aside0 (Kd.R Kd.bool 4 w' w.heap.size (fun _ => True) (.slice Ao13 y436.length co13) x6_1) ∧ Aside0 (w'.heap[gb431]? = some (.cells #[(.slice (some ad432) l0_0.length c0_0)] 40 (0, 0))) ∧ Aside0 (Below w.heap.size w w'))
  case atStart => exact ⟨(y436), (0), (by first | rfl | (simp; done) | (simp [*]; done)), H', ⟨Nat.le_refl _⟩, ⟨zR HO435.out⟩, ⟨zR HO438.out⟩, ⟨zk BK431.out⟩, ⟨zB HB.out⟩⟩
  case round =>
   clear H'
   try clear c1
   try clear p2
   try clear c3
   try clear c3b0
   try clear c3b1
   try clear p4
   try clear q4
   try clear hx4
   try clear qi4
   try clear c6
   try clear c6b0
   try clear c6b1
   try clear p6
   try clear c7
   try clear c7b0
   try clear c7b1
   try clear c11
   try clear c12
   try clear hx432_0
   try clear p432
   try clear q432
   obtain ⟨x6_1, x20_1, rfl, HA, HK1, HO_5, HO_6, BK431, HB⟩ := hrel
   have hl6_1 := (Kd.R_reads' HO_6.out).1
   rw [hl6_1] at HO_6
   (try simp only [hl6_1])
   (try simp only [hl6_1] at BK431)
   (try simp only [hl6_1] at HO_5)
   cases gk with
   | zero => exact absurd HA.out (by simp [impl_table.l0])
   | succ k1 =>
    have H := HA.out
    clear HA
    simp only [impl_table.l0] at H
    by_cases c14 : x20_1 < (y436.length : Int)
    ·rw [if_pos c14] at H
     have c14b0 : decide (x20_1 < (y436.length : Int)) = true := decide_eq_true c14
     clear c14
     have c14b0h := c14b0
     (try simp only [hl6_1] at c14b0h)
     obtain ⟨c15, H⟩ := zi H
     have c15b0 : decide (0 < (l0_0.length : Int)) = true := decide_eq_true c15
     have c15b1 : decide (0 < l0_0.length) = true := decide_eq_true (by omega)
     clear c15
     by_cases c16 : (rd l0_0 0) = 0
     ·rw [if_pos c16] at H
      exact absurd H (by simp)
     ·rw [if_neg c16] at H
      have c16b0 : ((rd l0_0 0) == 0) = false := beq_eq_false_iff_ne.mpr c16
      have c16b1 : ((rd l0_0 0) != 0) = true := bne_iff_ne.mpr c16
      obtain ⟨ji17, hji17⟩ : ∃ j_ : Int, (Int.tmod x20_1 (rd l0_0 0)) = j_ := ⟨_, rfl⟩
      replace H : (if 0 ≤ (ji17) then (if (ji17) < (t433.length : Int) then (if 0 ≤ x20_1 then (if x20_1 < (x6_1.length : Int) then (impl_table.l0 k1 t433 (x6_1.set (x20_1 : Int).toNat (decide ((rd t433 (ji17)) ≤ x20_1))) (y436.length : Int) (wrap64 (x20_1 + 1)) l0_0) else (none)) else (none)) else (none)) else (none)) = some r := by first | (rw [hji17] at H; exact H) | (simp only [hji17] at H ⊢; exact H)
      obtain ⟨c18, H⟩ := zi H
      have c18b0 : decide (0 ≤ (ji17)) = true := decide_eq_true c18
      clear c18
      obtain ⟨c19, H⟩ := zi H
      have c19b0 : decide ((ji17) < (t433.length : Int)) = true := decide_eq_true c19
      clear c19
      obtain ⟨c20, H⟩ := zi H
      have c20b0 : decide (0 ≤ x20_1) = true := decide_eq_true c20
      clear c20
      obtain ⟨c21, H⟩ := zi H
      have c21b0 : decide (x20_1 < (x6_1.length : Int)) = true := decide_eq_true c21
      clear c21
      obtain ⟨y441, Ny441⟩ : ∃ y_ : List Bool, Aside0 (y_ = (x6_1.set (x20_1 : Int).toNat (decide ((rd t433 (ji17)) ≤ x20_1)))) := ⟨_, ⟨rfl⟩⟩
      (try rw [Option.bind_some] at H)
      (try rw [← Ny441.out] at H)
      have H' := Aside0.mk H
      clear H
      have hcz23_0 : wr.cell? ⟨gb431, 0, none⟩ = some (.slice (some ad432) l0_0.length c0_0) := (blk_cell BK431.out 0).trans rfl
      have hfz23_0 := blk_frozen BK431.out 0
      have p439 : 0 ≤ (0 : Int) := (by omega)
      have q439 : 0 < (l0_0.length : Int) := of_decide_eq_true (by assumption)
      obtain ⟨ad439, e439, hx439_0⟩ := Kd.at_int HR0_0.out 0 p439 q439
      obtain rfl : ad432 = ad439 := (by injection e439)
      have qi439 : (0 < l0_0.length) = True := eq_true (by omega)
      (try rw [show ((0 : Int)).toNat = 0 from rfl] at hx439_0)
      (try rw [Addr.add_zero'] at hx439_0)
      (try replace hx439_0 := (HB.out.cell (World.block_lt_of_cell? w _ hx439_0)).trans hx439_0)
      replace p439 := eq_true p439
      replace q439 := eq_true q439
      obtain ⟨Ao24, co24, eo24⟩ := Kd.R_slice HO_5.out
      subst eo24
      have p440 : 0 ≤ ((ji17) : Int) := of_decide_eq_true (by assumption)
      have q440 : (ji17) < (t433.length : Int) := of_decide_eq_true (by assumption)
      obtain ⟨ad440, e440, hx440_0⟩ := Kd.at_int (Kd.R_reads' HO_5.out).2.2 (ji17) p440 q440
      cases e440
      replace p440 := eq_true p440
      replace q440 := eq_true q440
      have p22 : 0 ≤ (x20_1 : Int) := of_decide_eq_true (by assumption)
      have q22 : (x20_1 : Int) < ((x6_1.length : Int) : Int) := of_decide_eq_true (by assumption)
      obtain ⟨go22, co22, eo22, gb22, gl22, cl22, HG22⟩ := Kd.R_form HO_6.out (by omega)
      (first | cases eo22 | (injection eo22 with ea_ en_ ec_; (first | subst ea_ | (injection ea_ with ea_; subst ea_)); subst ec_; clear en_))
      have GB22 := Aside0.mk gb22
      have GG22 := Aside0.mk HG22
      clear gb22 gl22 HG22
      obtain ⟨hx22_0, hf22_0⟩ := Kd.R_celln false HO_6.out (x20_1 : Int) p22 q22
      replace p22 := eq_true p22
      replace q22 := eq_true q22
      have HP25 := Kd.R_putg HO_6.out (x20_1 : Int) (decide ((rd t433 (ji17)) ≤ x20_1))
      go_wp2_with (first | ((with_reducible refine gate_store (t := 4) (p := 36) rfl ?_); refine store_event (t := 4) (p := 36) (v := ?vo_w26) (w1 := (wr.setCell ⟨go22, (x20_1 : Int).toNat, none⟩ (.bool (decide ((rd t433 (ji17)) ≤ x20_1))))) ?hg ?ho ?hn ?hr ?_; (case ho => rfl); (case hg => rfl); (case hn => rfl); (case hr => first | (go_simp; done) | (go_simp; rfl)); intro w26 hw; have hg : wr.grownBy w26 (some go22) := (by rw [hw]; exact HP25.2); have hp_ : Kd.R Kd.bool 4 w26 w.heap.size (fun _ => True) (.slice (some ⟨go22, 0, none⟩) x6_1.length co13) y441 := (by rw [hw, Ny441.out]; exact HP25.1); clear HP25; have n0_ := Aside0.mk (Kd.R_over' (v := (.slice (some ⟨go22, 0, none⟩) x6_1.length co13)) (zR HO_5.out) (Kd.R_typed HO_6.out) (by decide) hg); have n1_ := Aside0.mk (hp_); have n2_ := Aside0.mk (blk_grown (g := gb431) (o := .cells #[.slice (some ad432) l0_0.length c0_0] 40 (0, 0)) (zk BK431.out) hg (Kd.R_ne HO_6.out BK431.out (by decide))); have n3_ := Aside0.mk ((by rw [hw]; exact below_set (HB.out) GB22.out : Below w.heap.size w w26)); clear HO_5; clear HO_6; clear BK431; clear HB; have HO_5 := n0_; have HO_6 := n1_; have BK431 := n2_; have HB := n3_; clear n0_ n1_ n2_ n3_; clear hg hw hp_))
      (try simp only [← hl6_1])
      go_roundg k1
      case measure => have := HK1.out; omega
      case rel => exact ⟨(y441), (wrap64 (x20_1 + 1)), (by first | rfl | (simp; done) | (simp [*]; done)), H', ⟨by have := HK1.out; omega⟩, ⟨by (try simp only [hl6_1]); (with_reducible repeat (first | apply Kd.R_alloc | apply Kd.R_drewN | apply Kd.R_drew)); exact HO_5.out⟩, ⟨by (try simp only [hl6_1]); (with_reducible repeat (first | apply Kd.R_alloc | apply Kd.R_drewN | apply Kd.R_drew)); exact HO_6.out⟩, ⟨by (try simp only [hl6_1]); (with_reducible repeat (first | refine blk_drewN ?_ _ | refine blk_drew ?_ | refine blk_alloc ?_ _)); exact BK431.out⟩, ⟨zB HB.out⟩⟩
    ·rw [if_neg c14] at H
     have c14b0 : decide (x20_1 < (y436.length : Int)) = false := decide_eq_false c14
     clear c14
     (try simp only [hl6_1] at c14b0)
     obtain rfl := Option.some.inj H
     go_wp2
     go_ret
     exact ⟨_, by first | rfl | (simp [errW_none, errW_some] <;> rfl) | (simp only [← hji5]; first | rfl | (simp [errW_none, errW_some] <;> rfl)) | (simp [*, errW_none, errW_some] <;> rfl), zR HO_6.out, zB HB.out⟩
 ·rw [if_neg c3] at H
  exact absurd H (by simp)

/-! ### impl_Gaps: function 37 -/
def impl_Gaps.l0 : Nat → List Int → List Bool → Int → Int → Option (List Int)
 | 0, _, _, _, _ => none
 | k + 1, x3, x11, x12, x13 => if x13 < x12 then (if 0 ≤ x13 then (if x13 < (x11.length : Int) then (if rdOf false x11 x13 = true then (impl_Gaps.l0 k x3 x11 x12 (wrap64 (x13 + 1))) else (if x3.length < 17592186044416 then (impl_Gaps.l0 k (x3 ++ [x13]) x11 x12 (wrap64 (x13 + 1))) else (none))) else (none)) else (none)) else (some x3)
def impl_Gaps.f (k : Nat) (l0_0 : List Int) : Option (List Int) := (impl_IsSemigroup.f k l0_0).bind fun t443 => (if t443 = true then ((impl_table.f k l0_0 200).bind fun t447 => (impl_Gaps.l0 k (([] : List Int)) t447 (t447.length : Int) 0)) else (some ([] : List Int)))
theorem impl_Gaps.mono_l : ∀ k, (∀ y0 y1 y2 y3, LeO (impl_Gaps.l0 k y0 y1 y2 y3) (impl_Gaps.l0 (k + 1) y0 y1 y2 y3))
 | 0 => fun _ _ _ _ r h => by simp [impl_Gaps.l0] at h
 | k + 1 => by
  have ih0 := impl_Gaps.mono_l k
  ·intro y0 y1 y2 y3
   unfold impl_Gaps.l0
   repeat' first
   | (with_reducible first | exact ih0 _ _ _ _ | exact impl_IsSemigroup.mono _ _ | exact impl_table.mono _ _ _ | exact LeO.refl _ | exact LeO.none _ | refine LeO.ite ?_ ?_ | refine LeO.bind ?_ (fun _ => ?_))
   | exact LeO.none _
   | refine LeO.ite ?_ ?_
   | refine LeO.bind ?_ (fun _ => ?_)
theorem impl_Gaps.mono : ∀ a0 k, LeO (impl_Gaps.f k a0) (impl_Gaps.f (k + 1) a0) := by
 intro a0 k
 have ih0 := impl_Gaps.mono_l k
 unfold impl_Gaps.f
 repeat' first
   | (with_reducible first | exact ih0 _ _ _ _ | exact impl_IsSemigroup.mono _ _ | exact impl_table.mono _ _ _ | exact LeO.refl _ | exact LeO.none _ | refine LeO.ite ?_ ?_ | refine LeO.bind ?_ (fun _ => ?_))
   | exact LeO.none _
   | refine LeO.ite ?_ ?_
   | refine LeO.bind ?_ (fun _ => ?_)
set_option maxHeartbeats 8000000 in
set_option maxRecDepth 100000 in
theorem impl_Gaps.calls (k : Nat) (A0_0 : Option Addr) (c0_0 : Nat) (l0_0 : List Int) (r : List Int) (w : World) (hr0_0 : Kd.C (Kd.int .i64) w A0_0 l0_0.length l0_0) (hc0_0 : l0_0.length ≤ c0_0) (h : impl_Gaps.f k l0_0 = some r) :
  Calls Try.prog 37 #[.agg #[.slice A0_0 l0_0.length c0_0]] w fun e w' => ∃ v0_ : Value, e = .returned (v0_) ∧ Kd.R (Kd.int .i64) 3 w' w.heap.size (fun _ => True) v0_ r ∧ Below w.heap.size w w' := by
 have hu40 := Try.underlying40
 have HR0_0 := Aside0.mk hr0_0
 have HC0_0 := Aside0.mk hc0_0
 clear hr0_0 hc0_0
 have HB := Aside0.mk (Below.refl w.heap.size w)
 have H : ((impl_IsSemigroup.f k l0_0).bind fun t443 => (if t443 = true then ((impl_table.f k l0_0 200).bind fun t447 => (impl_Gaps.l0 k (([] : List Int)) t447 (t447.length : Int) 0)) else (some ([] : List Int)))) = some r := h
 clear h
 obtain ⟨t443, A2, H⟩ := zb H
 have HU3 := Aside0.mk H
 clear H
 go_enter Try.func37, Try.ntmps37
 go_upto_if 8 with (first | ((with_reducible refine gate_dst (N := 1) rfl ?_); refine box_event ?hg (N := 1) ?hd (cs := #[.slice A0_0 l0_0.length c0_0]) (t := 40) ?hr ?_; (case hd => rfl); (case hg => rfl); (case hr => first | (go_simp; done) | (go_simp; rfl)); intro gb442 hg w4 hbox hb; have n0_ := Aside0.mk (below_step (zB HB.out) hb); have n1_ := Aside0.mk (hbox); have n2_ := Aside0.mk ((by rw [hg]; exact (zS HB.out) : w.heap.size ≤ gb442)); have n3_ := Aside0.mk ((by rw [hg]; exact (zS HB.out) : w.heap.size ≤ gb442)); clear HB; have HB := n0_; have BK442 := n1_; have GW442 := n2_; have GE442 := n3_; clear n0_ n1_ n2_ n3_; clear hb hbox hg; have hcz5_0 : w4.cell? ⟨gb442, 0, none⟩ = some (.slice A0_0 l0_0.length c0_0) := (blk_cell BK442.out 0).trans rfl; have hfz5_0 := blk_frozen BK442.out 0) | ((with_reducible refine gate_callee (f := 79) rfl ?_); refine goesL_ (some 7) rfl rfl Try.func79 (by kernel_rfl) rfl #[.agg #[.slice A0_0 l0_0.length c0_0]] rfl (by (try simp only [za, zc, zn]); first | done | rfl) ?_; (with_reducible refine (impl_IsSemigroup.calls k _ _ l0_0 t443 _ ?side1 ?side2 A2.out).mono ?_); (case side1 => exact zC (Kd.C_below HR0_0.out HB.out)); (case side2 => exact HC0_0.out); rintro e w6 ⟨rfl, hb⟩; refine ⟨_, rfl, ?_⟩; have n0_ := Aside0.mk (blk_below (g := gb442) (o := .cells #[.slice A0_0 l0_0.length c0_0] 40 (0, 0)) (zk BK442.out) hb); have n1_ := Aside0.mk (below_step (zB HB.out) hb); clear BK442; clear HB; have BK442 := n0_; have HB := n1_; clear n0_ n1_; (try clear hb); (try clear hb2); (try clear hk); (try clear hi)))
 (try simp only [Act.put, List.setIfInBounds_toArray, List.set_cons_zero, List.set_cons_succ])
 have H := HU3.out
 clear HU3
 by_cases c7 : t443 = true
 ·subst c7
  rw [zT] at H
  obtain ⟨y444, Ny444⟩ : ∃ y_ : List Int, Aside0 (y_ = (([] : List Int))) := ⟨_, ⟨rfl⟩⟩
  (try rw [Option.bind_some] at H)
  (try rw [← Ny444.out] at H)
  obtain ⟨t447, A8, H⟩ := zb H
  have H' := Aside0.mk H
  clear H
  go_wp2_with (first | ((with_reducible refine gate_dst (N := 9) rfl ?_); refine Kd.R_lit (Kd.int .i64) _ 3 ?hg (N := 9) ?hd (xs := ([] : List Int)) (inner := []) (ok := fun _ => True) (okp := fun _ => True) ?hr ?hp (fun _ hk => hk) trivial (Below.refl _ _) (Nat.le_refl _) (by simp) ?_; (case hd => rfl); (case hg => rfl); (case hr => first | (go_simp; done) | (go_simp; rfl)); (case hp => exact (Reps.none _ _)); intro v445 w9 ho10 hb hg_ hnew_; clear hg_ hnew_; (first | rw [← Ny444.out] at ho10 | (simp only [Int.reduceToNat] at ho10; rw [← Ny444.out] at ho10)); have n0_ := Aside0.mk (Kd.R_lower ho10 (zS HB.out)); have n1_ := Aside0.mk (blk_below (g := gb442) (o := .cells #[.slice A0_0 l0_0.length c0_0] 40 (0, 0)) (zk BK442.out) hb); have n2_ := Aside0.mk (below_step (zB HB.out) hb); clear BK442; clear HB; have HO446 := n0_; have BK442 := n1_; have HB := n2_; clear n0_ n1_ n2_; clear hb ho10; have hcz11_0 : w9.cell? ⟨gb442, 0, none⟩ = some (.slice A0_0 l0_0.length c0_0) := (blk_cell BK442.out 0).trans rfl; have hfz11_0 := blk_frozen BK442.out 0) | ((with_reducible refine gate_callee (f := 117) rfl ?_); refine goesL_ (some 11) rfl rfl Try.func117 (by kernel_rfl) rfl #[.agg #[.slice A0_0 l0_0.length c0_0], .int .i64 200] rfl (by (try simp only [za, zc, zn]); first | done | rfl) ?_; (with_reducible refine (impl_table.calls k _ _ l0_0 200 t447 _ ?side1 ?side2 A8.out).mono ?_); (case side1 => exact zC (Kd.C_below HR0_0.out HB.out)); (case side2 => exact HC0_0.out); rintro e w12 ⟨v448, rfl, ho0, hb⟩; refine ⟨_, rfl, ?_⟩; have n0_ := Aside0.mk (Kd.R_below (zR HO446.out) hb); have n1_ := Aside0.mk (Kd.R_lower ho0 (zS HB.out)); have n2_ := Aside0.mk (blk_below (g := gb442) (o := .cells #[.slice A0_0 l0_0.length c0_0] 40 (0, 0)) (zk BK442.out) hb); have n3_ := Aside0.mk (below_step (zB HB.out) hb); clear HO446; clear BK442; clear HB; have HO446 := n0_; have HO449 := n1_; have BK442 := n2_; have HB := n3_; clear n0_ n1_ n2_ n3_; (try clear hb); (try clear hb2); (try clear hk); (try clear hi); (try clear ho0); obtain ⟨Ao13, co13, eo13⟩ := Kd.R_slice HO449.out; subst eo13))
  go_loopg [3, 13] k (fun kq v3 v13 w' => ∃ (x3_1 : List Int) (x13_1 : Int), v13 = .int .i64 x13_1 ∧ Aside0 (impl_Gaps.l0 kq x3_1 t447 (t447.length : Int) x13_1 = some r) ∧ Aside0 (kq ≤ k) ∧ Aside0 (Kd.R (Kd.int .i64) 3 w' w.heap.size (fun _ => True) v3 x3_1) ∧ Aside0 (Kd.R Kd.bool 4 w' w.heap.size (fun _ => True) (.slice Ao13 t447.length co13) t447) ∧ Aside0 (w'.heap[gb442]? = some (.cells #[(.slice A0_0 l0_0.length c0_0)] 40 (0, 0))) ∧ Aside0 (Below w.heap.size w w'))
  case atStart => exact ⟨(y444), (0), (by first | rfl | (simp; done) | (simp [*]; done)), H', ⟨Nat.le_refl _⟩, ⟨zR HO446.out⟩, ⟨zR HO449.out⟩, ⟨zk BK442.out⟩, ⟨zB HB.out⟩⟩
  case round =>
   clear H'
   try clear c1
   try clear p2
   try clear c3
   try clear c7
   try clear c11
   try clear hcz11_0
   try clear hcz5_0
   try clear hfz11_0
   try clear hfz5_0
   obtain ⟨x3_1, x13_1, rfl, HA, HK1, HO_3, HO_11, BK442, HB⟩ := hrel
   cases gk with
   | zero => exact absurd HA.out (by simp [impl_Gaps.l0])
   | succ k1 =>
    have H := HA.out
    clear HA
    simp only [impl_Gaps.l0] at H
    by_cases c14 : x13_1 < (t447.length : Int)
    ·rw [if_pos c14] at H
     have c14b0 : decide (x13_1 < (t447.length : Int)) = true := decide_eq_true c14
     clear c14
     (first | rw [c14b0] | rw [c14b1] | (simp only [i64_w, i32_w]; rw [c14b0]) | skip)
     obtain ⟨c15, H⟩ := zi H
     have c15b0 : decide (0 ≤ x13_1) = true := decide_eq_true c15
     clear c15
     obtain ⟨c16, H⟩ := zi H
     have c16b0 : decide (x13_1 < (t447.length : Int)) = true := decide_eq_true c16
     clear c16
     obtain ⟨bq17, hbq17⟩ : ∃ b_ : Bool, b_ = (rdOf false t447 x13_1) := ⟨_, rfl⟩
     replace H : (if bq17 = true then (impl_Gaps.l0 k1 x3_1 t447 (t447.length : Int) (wrap64 (x13_1 + 1))) else (if x3_1.length < 17592186044416 then (impl_Gaps.l0 k1 (x3_1 ++ [x13_1]) t447 (t447.length : Int) (wrap64 (x13_1 + 1))) else (none))) = some r := by rw [← hbq17] at H; exact H
     have Nbq17 := Aside0.mk hbq17
     clear hbq17
     by_cases c18 : bq17 = true
     ·subst c18
      rw [zT] at H
      have H' := Aside0.mk H
      clear H
      have p450 : 0 ≤ (x13_1 : Int) := of_decide_eq_true (by assumption)
      have q450 : x13_1 < (t447.length : Int) := of_decide_eq_true (by assumption)
      obtain ⟨ad450, e450, hx450_0⟩ := Kd.at_bool (Kd.R_reads' HO_11.out).2.2 x13_1 p450 q450
      (try rw [← Nbq17.out] at hx450_0)
      cases e450
      replace p450 := eq_true p450
      replace q450 := eq_true q450
      go_wp2
      go_roundg k1
      case measure => have := HK1.out; omega
      case rel => exact ⟨(x3_1), (wrap64 (x13_1 + 1)), (by first | rfl | (simp; done) | (simp [*]; done)), H', ⟨by have := HK1.out; omega⟩, ⟨zR HO_3.out⟩, ⟨zR HO_11.out⟩, ⟨zk BK442.out⟩, ⟨zB HB.out⟩⟩
     ·replace c18 := Bool.eq_false_iff.mpr c18
      subst c18
      rw [zF] at H
      obtain ⟨c19, H⟩ := zi H
      have LMc19 := Aside0.mk c19
      clear c19
      obtain ⟨y451, Ny451⟩ : ∃ y_ : List Int, Aside0 (y_ = (x3_1 ++ [x13_1])) := ⟨_, ⟨rfl⟩⟩
      (try rw [Option.bind_some] at H)
      (try rw [← Ny451.out] at H)
      have H' := Aside0.mk H
      clear H
      have p450 : 0 ≤ (x13_1 : Int) := of_decide_eq_true (by assumption)
      have q450 : x13_1 < (t447.length : Int) := of_decide_eq_true (by assumption)
      obtain ⟨ad450, e450, hx450_0⟩ := Kd.at_bool (Kd.R_reads' HO_11.out).2.2 x13_1 p450 q450
      (try rw [← Nbq17.out] at hx450_0)
      cases e450
      replace p450 := eq_true p450
      replace q450 := eq_true q450
      go_wp2_with (first | ((with_reducible refine gate_builtin (b := .append) (xs := #[.tmp 20, .tmp 22]) rfl ?_); at_builtin; refine Kd.R_append (Kd.int .i64) (w0 := w) w.heap.size rfl (.tmp 20) (.tmp 22) 33 3 (.int .i64 0) 8 rfl Try.underlying33 info3 rfl (by decide) (by omega) u3 x3_1 x13_1 [.int .i64 x13_1] (fun _ => True) (fun _ => False) rfl rfl ?aP (fun _ hk => hk.elim) ?aF ?aO ?aB ?aS ?aL ?_; (case aP => exact rfl); (case aB => exact (zB HB.out)); (case aF => exact (fun _ _ => trivial)); (case aO => exact (zR HO_3.out)); (case aS => exact (zS HB.out)); (case aL => have := LMc19.out; omega); intro v452 w20 ho hb hg hat; rw [← Ny451.out] at ho; have n0_ := Aside0.mk (Kd.R_over' (zR HO_11.out) (Kd.R_typed (zR HO_3.out)) (by decide) hg); have n1_ := Aside0.mk (blk_grown (g := gb442) (o := .cells #[.slice A0_0 l0_0.length c0_0] 40 (0, 0)) (zk BK442.out) hg (Kd.R_ne HO_3.out BK442.out (by decide))); have n2_ := Aside0.mk (hb); have n3_ := Aside0.mk (ho); clear HO_11; clear BK442; clear HB; clear HO_3; have HO_11 := n0_; have BK442 := n1_; have HB := n2_; have HO453 := n3_; clear n0_ n1_ n2_ n3_; clear ho hb hg hat))
      go_roundg k1
      case measure => have := HK1.out; omega
      case rel => exact ⟨(y451), (wrap64 (x13_1 + 1)), (by first | rfl | (simp; done) | (simp [*]; done)), H', ⟨by have := HK1.out; omega⟩, ⟨zR HO453.out⟩, ⟨zR HO_11.out⟩, ⟨zk BK442.out⟩, ⟨zB HB.out⟩⟩
    ·rw [if_neg c14] at H
     have c14b0 : decide (x13_1 < (t447.length : Int)) = false := decide_eq_false c14
     clear c14
     (first | rw [c14b0] | rw [c14b1] | (simp only [i64_w, i32_w]; rw [c14b0]) | skip)
     obtain rfl := Option.some.inj H
     go_wp2
     go_ret
     exact ⟨_, by first | rfl | (simp [errW_none, errW_some] <;> rfl) | (simp [*, errW_none, errW_some] <;> rfl), zR HO_3.out, zB HB.out⟩
 ·replace c7 := Bool.eq_false_iff.mpr c7
  subst c7
  rw [zF] at H
  obtain rfl := Option.some.inj H
  go_wp2
  go_ret
  exact ⟨_, by first | rfl | (simp [errW_none, errW_some] <;> rfl) | (simp [*, errW_none, errW_some] <;> rfl), by first | exact Kd.R_nil _ _ _ _ _ | exact Kd.N_nil _ _ _ _ _ | exact Kd.V_nil _ _ _ _ _ | exact Kd.Q_nil _ _ _ _ _ | exact Kd.S_nil _ _ _ _ _, zB HB.out⟩

/-! ### impl_PseudoFrobenius: function 90 -/
mutual
def impl_PseudoFrobenius.l0 : Nat → List Int → List Bool → List Int → Int → Int → List Int → Option (List Int)
 | 0, _, _, _, _, _, _ => none
 | k + 1, x3, x4, x17, x18, x19, x455000 => if x19 < x18 then (if 0 ≤ x19 then (if x19 < (x17.length : Int) then (impl_PseudoFrobenius.l1 k x3 x4 (rd x17 x19) true x17 x18 x19 x455000 (x455000.length : Int) 0 x455000) else (none)) else (none)) else (some x3)
def impl_PseudoFrobenius.l1 : Nat → List Int → List Bool → Int → Bool → List Int → Int → Int → List Int → Int → Int → List Int → Option (List Int)
 | 0, _, _, _, _, _, _, _, _, _, _, _ => none
 | k + 1, x3, x4, x6, x7, x17, x18, x19, x24, x25, x26, x455000 => if x26 < x25 then (if 0 ≤ x26 then (if x26 < (x24.length : Int) then (if x7 = true then (if 0 ≤ (wrap64 (x6 + (rd x24 x26))) then (if (wrap64 (x6 + (rd x24 x26))) < (x4.length : Int) then (impl_PseudoFrobenius.l1 k x3 x4 x6 (rdOf false x4 (wrap64 (x6 + (rd x24 x26)))) x17 x18 x19 x24 x25 (wrap64 (x26 + 1)) x455000) else (none)) else (none)) else (impl_PseudoFrobenius.l1 k x3 x4 x6 false x17 x18 x19 x24 x25 (wrap64 (x26 + 1)) x455000)) else (none)) else (none)) else (if x7 = true then (if x3.length < 17592186044416 then (impl_PseudoFrobenius.l0 k (x3 ++ [x6]) x4 x17 x18 (wrap64 (x19 + 1)) x455000) else (none)) else (impl_PseudoFrobenius.l0 k x3 x4 x17 x18 (wrap64 (x19 + 1)) x455000))
end
def impl_PseudoFrobenius.f (k : Nat) (l0_0 : List Int) : Option (List Int) := (impl_IsSemigroup.f k l0_0).bind fun t455 => (if t455 = true then ((impl_table.f k l0_0 260).bind fun t459 => ((impl_Gaps.f k l0_0).bind fun t462 => (impl_PseudoFrobenius.l0 k (([] : List Int)) t459 t462 (t462.length : Int) 0 l0_0))) else (some ([] : List Int)))
theorem impl_PseudoFrobenius.mono_l : ∀ k, (∀ y0 y1 y2 y3 y4 y5, LeO (impl_PseudoFrobenius.l0 k y0 y1 y2 y3 y4 y5) (impl_PseudoFrobenius.l0 (k + 1) y0 y1 y2 y3 y4 y5)) ∧ (∀ y0 y1 y2 y3 y4 y5 y6 y7 y8 y9 y10, LeO (impl_PseudoFrobenius.l1 k y0 y1 y2 y3 y4 y5 y6 y7 y8 y9 y10) (impl_PseudoFrobenius.l1 (k + 1) y0 y1 y2 y3 y4 y5 y6 y7 y8 y9 y10))
 | 0 => ⟨fun _ _ _ _ _ _ r h => by simp [impl_PseudoFrobenius.l0] at h, fun _ _ _ _ _ _ _ _ _ _ _ r h => by simp [impl_PseudoFrobenius.l1] at h⟩
 | k + 1 => by
  obtain ⟨ih0, ih1⟩ := impl_PseudoFrobenius.mono_l k
  refine ⟨?_, ?_⟩
  ·intro y0 y1 y2 y3 y4 y5
   unfold impl_PseudoFrobenius.l0
   repeat' first
   | (with_reducible first | exact ih0 _ _ _ _ _ _ | exact ih1 _ _ _ _ _ _ _ _ _ _ _ | exact impl_Gaps.mono _ _ | exact impl_IsSemigroup.mono _ _ | exact impl_table.mono _ _ _ | exact LeO.refl _ | exact LeO.none _ | refine LeO.ite ?_ ?_ | refine LeO.bind ?_ (fun _ => ?_))
   | exact LeO.none _
   | refine LeO.ite ?_ ?_
   | refine LeO.bind ?_ (fun _ => ?_)
  ·intro y0 y1 y2 y3 y4 y5 y6 y7 y8 y9 y10
   unfold impl_PseudoFrobenius.l1
   repeat' first
   | (with_reducible first | exact ih0 _ _ _ _ _ _ | exact ih1 _ _ _ _ _ _ _ _ _ _ _ | exact impl_Gaps.mono _ _ | exact impl_IsSemigroup.mono _ _ | exact impl_table.mono _ _ _ | exact LeO.refl _ | exact LeO.none _ | refine LeO.ite ?_ ?_ | refine LeO.bind ?_ (fun _ => ?_))
   | exact LeO.none _
   | refine LeO.ite ?_ ?_
   | refine LeO.bind ?_ (fun _ => ?_)
theorem impl_PseudoFrobenius.mono : ∀ a0 k, LeO (impl_PseudoFrobenius.f k a0) (impl_PseudoFrobenius.f (k + 1) a0) := by
 intro a0 k
 obtain ⟨ih0, ih1⟩ := impl_PseudoFrobenius.mono_l k
 unfold impl_PseudoFrobenius.f
 repeat' first
   | (with_reducible first | exact ih0 _ _ _ _ _ _ | exact ih1 _ _ _ _ _ _ _ _ _ _ _ | exact impl_Gaps.mono _ _ | exact impl_IsSemigroup.mono _ _ | exact impl_table.mono _ _ _ | exact LeO.refl _ | exact LeO.none _ | refine LeO.ite ?_ ?_ | refine LeO.bind ?_ (fun _ => ?_))
   | exact LeO.none _
   | refine LeO.ite ?_ ?_
   | refine LeO.bind ?_ (fun _ => ?_)
set_option maxHeartbeats 8000000 in
set_option maxRecDepth 100000 in
theorem impl_PseudoFrobenius.calls (k : Nat) (A0_0 : Option Addr) (c0_0 : Nat) (l0_0 : List Int) (r : List Int) (w : World) (hr0_0 : Kd.C (Kd.int .i64) w A0_0 l0_0.length l0_0) (hc0_0 : l0_0.length ≤ c0_0) (h : impl_PseudoFrobenius.f k l0_0 = some r) :
  Calls Try.prog 90 #[.agg #[.slice A0_0 l0_0.length c0_0]] w fun e w' => ∃ v0_ : Value, e = .returned (v0_) ∧ Kd.R (Kd.int .i64) 3 w' w.heap.size (fun _ => True) v0_ r ∧ Below w.heap.size w w' := by
 have hu40 := Try.underlying40
 have HR0_0 := Aside0.mk hr0_0
 have HC0_0 := Aside0.mk hc0_0
 clear hr0_0 hc0_0
 have HB := Aside0.mk (Below.refl w.heap.size w)
 have H : ((impl_IsSemigroup.f k l0_0).bind fun t455 => (if t455 = true then ((impl_table.f k l0_0 260).bind fun t459 => ((impl_Gaps.f k l0_0).bind fun t462 => (impl_PseudoFrobenius.l0 k (([] : List Int)) t459 t462 (t462.length : Int) 0 l0_0))) else (some ([] : List Int)))) = some r := h
 clear h
 obtain ⟨t455, A2, H⟩ := zb H
 have HU3 := Aside0.mk H
 clear H
 go_enter Try.func90, Try.ntmps90
 go_upto_if 12 with (first | ((with_reducible refine gate_dst (N := 1) rfl ?_); refine box_event ?hg (N := 1) ?hd (cs := #[.slice A0_0 l0_0.length c0_0]) (t := 40) ?hr ?_; (case hd => rfl); (case hg => rfl); (case hr => first | (go_simp; done) | (go_simp; rfl)); intro gb454 hg w4 hbox hb; have n0_ := Aside0.mk (below_step (zB HB.out) hb); have n1_ := Aside0.mk (hbox); have n2_ := Aside0.mk ((by rw [hg]; exact (zS HB.out) : w.heap.size ≤ gb454)); have n3_ := Aside0.mk ((by rw [hg]; exact (zS HB.out) : w.heap.size ≤ gb454)); clear HB; have HB := n0_; have BK454 := n1_; have GW454 := n2_; have GE454 := n3_; clear n0_ n1_ n2_ n3_; clear hb hbox hg; have hcz5_0 : w4.cell? ⟨gb454, 0, none⟩ = some (.slice A0_0 l0_0.length c0_0) := (blk_cell BK454.out 0).trans rfl; have hfz5_0 := blk_frozen BK454.out 0) | ((with_reducible refine gate_callee (f := 79) rfl ?_); refine goesL_ (some 11) rfl rfl Try.func79 (by kernel_rfl) rfl #[.agg #[.slice A0_0 l0_0.length c0_0]] rfl (by (try simp only [za, zc, zn]); first | done | rfl) ?_; (with_reducible refine (impl_IsSemigroup.calls k _ _ l0_0 t455 _ ?side1 ?side2 A2.out).mono ?_); (case side1 => exact zC (Kd.C_below HR0_0.out HB.out)); (case side2 => exact HC0_0.out); rintro e w6 ⟨rfl, hb⟩; refine ⟨_, rfl, ?_⟩; have n0_ := Aside0.mk (blk_below (g := gb454) (o := .cells #[.slice A0_0 l0_0.length c0_0] 40 (0, 0)) (zk BK454.out) hb); have n1_ := Aside0.mk (below_step (zB HB.out) hb); clear BK454; clear HB; have BK454 := n0_; have HB := n1_; clear n0_ n1_; (try clear hb); (try clear hb2); (try clear hk); (try clear hi)))
 (try simp only [Act.put, List.setIfInBounds_toArray, List.set_cons_zero, List.set_cons_succ])
 have H := HU3.out
 clear HU3
 by_cases c7 : t455 = true
 ·subst c7
  rw [zT] at H
  obtain ⟨y456, Ny456⟩ : ∃ y_ : List Int, Aside0 (y_ = (([] : List Int))) := ⟨_, ⟨rfl⟩⟩
  (try rw [Option.bind_some] at H)
  (try rw [← Ny456.out] at H)
  obtain ⟨t459, A8, H⟩ := zb H
  obtain ⟨t462, A9, H⟩ := zb H
  have H' := Aside0.mk H
  clear H
  go_wp2_with (first | ((with_reducible refine gate_dst (N := 13) rfl ?_); refine Kd.R_lit (Kd.int .i64) _ 3 ?hg (N := 13) ?hd (xs := ([] : List Int)) (inner := []) (ok := fun _ => True) (okp := fun _ => True) ?hr ?hp (fun _ hk => hk) trivial (Below.refl _ _) (Nat.le_refl _) (by simp) ?_; (case hd => rfl); (case hg => rfl); (case hr => first | (go_simp; done) | (go_simp; rfl)); (case hp => exact (Reps.none _ _)); intro v457 w10 ho11 hb hg_ hnew_; clear hg_ hnew_; (first | rw [← Ny456.out] at ho11 | (simp only [Int.reduceToNat] at ho11; rw [← Ny456.out] at ho11)); have n0_ := Aside0.mk (Kd.R_lower ho11 (zS HB.out)); have n1_ := Aside0.mk (blk_below (g := gb454) (o := .cells #[.slice A0_0 l0_0.length c0_0] 40 (0, 0)) (zk BK454.out) hb); have n2_ := Aside0.mk (below_step (zB HB.out) hb); clear BK454; clear HB; have HO458 := n0_; have BK454 := n1_; have HB := n2_; clear n0_ n1_ n2_; clear hb ho11; have hcz12_0 : w10.cell? ⟨gb454, 0, none⟩ = some (.slice A0_0 l0_0.length c0_0) := (blk_cell BK454.out 0).trans rfl; have hfz12_0 := blk_frozen BK454.out 0) | ((with_reducible refine gate_callee (f := 117) rfl ?_); refine goesL_ (some 15) rfl rfl Try.func117 (by kernel_rfl) rfl #[.agg #[.slice A0_0 l0_0.length c0_0], .int .i64 260] rfl (by (try simp only [za, zc, zn]); first | done | rfl) ?_; (with_reducible refine (impl_table.calls k _ _ l0_0 260 t459 _ ?side1 ?side2 A8.out).mono ?_); (case side1 => exact zC (Kd.C_below HR0_0.out HB.out)); (case side2 => exact HC0_0.out); rintro e w13 ⟨v460, rfl, ho0, hb⟩; refine ⟨_, rfl, ?_⟩; have n0_ := Aside0.mk (Kd.R_below (zR HO458.out) hb); have n1_ := Aside0.mk (Kd.R_lower ho0 (zS HB.out)); have n2_ := Aside0.mk (blk_below (g := gb454) (o := .cells #[.slice A0_0 l0_0.length c0_0] 40 (0, 0)) (zk BK454.out) hb); have n3_ := Aside0.mk (below_step (zB HB.out) hb); clear HO458; clear BK454; clear HB; have HO458 := n0_; have HO461 := n1_; have BK454 := n2_; have HB := n3_; clear n0_ n1_ n2_ n3_; (try clear hb); (try clear hb2); (try clear hk); (try clear hi); (try clear ho0); have hcz14_0 : w13.cell? ⟨gb454, 0, none⟩ = some (.slice A0_0 l0_0.length c0_0) := (blk_cell BK454.out 0).trans rfl; have hfz14_0 := blk_frozen BK454.out 0) | ((with_reducible refine gate_callee (f := 37) rfl ?_); refine goesL_ (some 17) rfl rfl Try.func37 (by kernel_rfl) rfl #[.agg #[.slice A0_0 l0_0.length c0_0]] rfl (by (try simp only [za, zc, zn]); first | done | rfl) ?_; (with_reducible refine (impl_Gaps.calls k _ _ l0_0 t462 _ ?side1 ?side2 A9.out).mono ?_); (case side1 => exact zC (Kd.C_below HR0_0.out HB.out)); (case side2 => exact HC0_0.out); rintro e w15 ⟨v463, rfl, ho0, hb⟩; refine ⟨_, rfl, ?_⟩; have n0_ := Aside0.mk (Kd.R_elder' (zR HO458.out) (Kd.R_base ho0) hb); have n1_ := Aside0.mk (Kd.R_below (zR HO461.out) hb); have n2_ := Aside0.mk (Kd.R_lower (Kd.R_new' ho0 (Kd.R_lt (zR HO458.out))) (zS HB.out)); have n3_ := Aside0.mk (blk_below (g := gb454) (o := .cells #[.slice A0_0 l0_0.length c0_0] 40 (0, 0)) (zk BK454.out) hb); have n4_ := Aside0.mk (below_step (zB HB.out) hb); clear HO458; clear HO461; clear BK454; clear HB; have HO458 := n0_; have HO461 := n1_; have HO464 := n2_; have BK454 := n3_; have HB := n4_; clear n0_ n1_ n2_ n3_ n4_; (try clear hb); (try clear hb2); (try clear hk); (try clear hi); (try clear ho0); obtain ⟨Ao16, co16, eo16⟩ := Kd.R_slice HO464.out; subst eo16))
  go_loopg [3, 19] k (fun kq v3 v19 w' => ∃ (x3_1 : List Int) (x19_1 : Int), v19 = .int .i64 x19_1 ∧ Aside0 (impl_PseudoFrobenius.l0 kq x3_1 t459 t462 (t462.length : Int) x19_1 l0_0 = some r) ∧ Aside0 (kq ≤ k) ∧ Aside0 (Kd.R (Kd.int .i64) 3 w' w.heap.size (fun k_ => some k_ ≠ ((.slice Ao16 t462.length co16) : Value).ownBlock) v3 x3_1) ∧ Aside0 (Kd.R Kd.bool 4 w' w.heap.size (fun _ => True) v460 t459) ∧ Aside0 (Kd.R (Kd.int .i64) 3 w' w.heap.size (fun k_ => some k_ ≠ (v3 : Value).ownBlock) (.slice Ao16 t462.length co16) t462) ∧ Aside0 (w'.heap[gb454]? = some (.cells #[(.slice A0_0 l0_0.length c0_0)] 40 (0, 0))) ∧ Aside0 (Below w.heap.size w w'))
  case atStart => exact ⟨(y456), (0), (by first | rfl | (simp; done) | (simp [*]; done)), H', ⟨Nat.le_refl _⟩, ⟨zR (Kd.R_mono HO458.out (fun _ hk => hk.2))⟩, ⟨zR HO461.out⟩, ⟨zR (Kd.R_mono HO464.out (fun _ hk => hk.2))⟩, ⟨zk BK454.out⟩, ⟨zB HB.out⟩⟩
  case round =>
   clear H'
   try clear c1
   try clear p2
   try clear c3
   try clear c7
   try clear c9
   try clear c11
   try clear hcz12_0
   try clear hcz14_0
   try clear hcz5_0
   try clear hfz12_0
   try clear hfz14_0
   try clear hfz5_0
   obtain ⟨x3_1, x19_1, rfl, HA, HK1, HO_3, HO_4, HO_17, BK454, HB⟩ := hrel
   cases gk with
   | zero => exact absurd HA.out (by simp [impl_PseudoFrobenius.l0])
   | succ k1 =>
    have H := HA.out
    clear HA
    simp only [impl_PseudoFrobenius.l0] at H
    by_cases c17 : x19_1 < (t462.length : Int)
    ·rw [if_pos c17] at H
     have c17b0 : decide (x19_1 < (t462.length : Int)) = true := decide_eq_true c17
     clear c17
     (first | rw [c17b0] | rw [c17b1] | (simp only [i64_w, i32_w]; rw [c17b0]) | skip)
     obtain ⟨c18, H⟩ := zi H
     have c18b0 : decide (0 ≤ x19_1) = true := decide_eq_true c18
     clear c18
     obtain ⟨c19, H⟩ := zi H
     have c19b0 : decide (x19_1 < (t462.length : Int)) = true := decide_eq_true c19
     clear c19
     have H' := Aside0.mk H
     clear H
     have p465 : 0 ≤ (x19_1 : Int) := of_decide_eq_true (by assumption)
     have q465 : x19_1 < (t462.length : Int) := of_decide_eq_true (by assumption)
     obtain ⟨ad465, e465, hx465_0⟩ := Kd.at_int (Kd.R_reads' HO_17.out).2.2 x19_1 p465 q465
     cases e465
     replace p465 := eq_true p465
     replace q465 := eq_true q465
     have hcz20_0 : wr.cell? ⟨gb454, 0, none⟩ = some (.slice A0_0 l0_0.length c0_0) := (blk_cell BK454.out 0).trans rfl
     have hfz20_0 := blk_frozen BK454.out 0
     go_wp2
     go_loopg [7, 26] k1 (fun kq v7 v26 w' => ∃ (x7_2 : Bool) (x26_2 : Int), v7 = .bool x7_2 ∧ v26 = .int .i64 x26_2 ∧ Aside0 (impl_PseudoFrobenius.l1 kq x3_1 t459 (rd t462 x19_1) x7_2 t462 (t462.length : Int) x19_1 l0_0 (l0_0.length : Int) x26_2 l0_0 = some r) ∧ Aside0 (kq ≤ k1) ∧ Aside0 (Kd.R (Kd.int .i64) 3 w' w.heap.size (fun k_ => some k_ ≠ ((.slice (some ad465) t462.length co16) : Value).ownBlock) u3 x3_1) ∧ Aside0 (Kd.R Kd.bool 4 w' w.heap.size (fun _ => True) v460 t459) ∧ Aside0 (Kd.R (Kd.int .i64) 3 w' w.heap.size (fun k_ => some k_ ≠ (u3 : Value).ownBlock) (.slice (some ad465) t462.length co16) t462) ∧ Aside0 (w'.heap[gb454]? = some (.cells #[(.slice A0_0 l0_0.length c0_0)] 40 (0, 0))) ∧ Aside0 (Below w.heap.size w w'))
     case atStart => exact ⟨(true), (0), (by first | rfl | (simp; done) | (simp [*]; done)), (by first | rfl | (simp; done) | (simp [*]; done)), H', ⟨Nat.le_refl _⟩, ⟨zR HO_3.out⟩, ⟨zR HO_4.out⟩, ⟨zR HO_17.out⟩, ⟨zk BK454.out⟩, ⟨zB HB.out⟩⟩
     case round =>
      clear H'
      try clear c1
      try clear p2
      try clear c3
      try clear p4
      try clear q4
      try clear hx4
      try clear c7
      try clear c9
      try clear c11
      try clear c17
      try clear c17b0
      try clear c18
      try clear c18b0
      try clear c19
      try clear c19b0
      try clear hcz12_0
      try clear hcz14_0
      try clear hcz20_0
      try clear hcz5_0
      try clear hfz12_0
      try clear hfz14_0
      try clear hfz20_0
      try clear hfz5_0
      try clear hx465_0
      try clear p2
      try clear p465
      try clear q465
      obtain ⟨x7_2, x26_2, rfl, rfl, HA, HK2, HO_3, HO_4, HO_17, BK454, HB⟩ := hrel
      cases gk with
      | zero => exact absurd HA.out (by simp [impl_PseudoFrobenius.l1])
      | succ k2 =>
       have H := HA.out
       clear HA
       simp only [impl_PseudoFrobenius.l1] at H
       by_cases c21 : x26_2 < (l0_0.length : Int)
       ·rw [if_pos c21] at H
        have c21b0 : decide (x26_2 < (l0_0.length : Int)) = true := decide_eq_true c21
        clear c21
        obtain ⟨c22, H⟩ := zi H
        have c22b0 : decide (0 ≤ x26_2) = true := decide_eq_true c22
        clear c22
        obtain ⟨c23, H⟩ := zi H
        have c23b0 : decide (x26_2 < (l0_0.length : Int)) = true := decide_eq_true c23
        clear c23
        by_cases c24 : x7_2 = true
        ·subst c24
         rw [zT] at H
         obtain ⟨ji25, hji25⟩ : ∃ j_ : Int, (wrap64 ((rd t462 x19_1) + (rd l0_0 x26_2))) = j_ := ⟨_, rfl⟩
         replace H : (if 0 ≤ (ji25) then (if (ji25) < (t459.length : Int) then (impl_PseudoFrobenius.l1 k2 x3_1 t459 (rd t462 x19_1) (rdOf false t459 (ji25)) t462 (t462.length : Int) x19_1 l0_0 (l0_0.length : Int) (wrap64 (x26_2 + 1)) l0_0) else (none)) else (none)) = some r := by first | (rw [hji25] at H; exact H) | (simp only [hji25] at H ⊢; exact H)
         have hji25w : (IntKind.i64.wrap ((rd t462 x19_1) + (rd l0_0 x26_2))) = ji25 := (i64_w _).trans hji25
         obtain ⟨c26, H⟩ := zi H
         have c26b0 : decide (0 ≤ (ji25)) = true := decide_eq_true c26
         clear c26
         obtain ⟨c27, H⟩ := zi H
         have c27b0 : decide ((ji25) < (t459.length : Int)) = true := decide_eq_true c27
         clear c27
         have H' := Aside0.mk H
         clear H
         have p466 : 0 ≤ (x26_2 : Int) := of_decide_eq_true (by assumption)
         have q466 : x26_2 < (l0_0.length : Int) := of_decide_eq_true (by assumption)
         obtain ⟨ad466, e466, hx466_0⟩ := Kd.at_int HR0_0.out x26_2 p466 q466
         cases e466
         (try replace hx466_0 := (HB.out.cell (World.block_lt_of_cell? w _ hx466_0)).trans hx466_0)
         replace p466 := eq_true p466
         replace q466 := eq_true q466
         obtain ⟨Ao28, co28, eo28⟩ := Kd.R_slice HO_4.out
         subst eo28
         have p467 : 0 ≤ ((ji25) : Int) := of_decide_eq_true (by assumption)
         have q467 : (ji25) < (t459.length : Int) := of_decide_eq_true (by assumption)
         obtain ⟨ad467, e467, hx467_0⟩ := Kd.at_bool (Kd.R_reads' HO_4.out).2.2 (ji25) p467 q467
         cases e467
         replace p467 := eq_true p467
         replace q467 := eq_true q467
         go_wp2
         go_roundg k2
         case measure => have := HK1.out; have := HK2.out; omega
         case rel => exact ⟨(rdOf false t459 (ji25)), (wrap64 (x26_2 + 1)), (by first | rfl | (simp; done) | (simp only [← hji25] <;> (first | rfl | simp)) | (simp [*]; done)), (by first | rfl | (simp; done) | (simp [*]; done)), H', ⟨by have := HK1.out; have := HK2.out; omega⟩, ⟨zR HO_3.out⟩, ⟨zR HO_4.out⟩, ⟨zR HO_17.out⟩, ⟨zk BK454.out⟩, ⟨zB HB.out⟩⟩
        ·replace c24 := Bool.eq_false_iff.mpr c24
         subst c24
         rw [zF] at H
         have H' := Aside0.mk H
         clear H
         have p466 : 0 ≤ (x26_2 : Int) := of_decide_eq_true (by assumption)
         have q466 : x26_2 < (l0_0.length : Int) := of_decide_eq_true (by assumption)
         obtain ⟨ad466, e466, hx466_0⟩ := Kd.at_int HR0_0.out x26_2 p466 q466
         cases e466
         (try replace hx466_0 := (HB.out.cell (World.block_lt_of_cell? w _ hx466_0)).trans hx466_0)
         replace p466 := eq_true p466
         replace q466 := eq_true q466
         go_wp2
         go_roundg k2
         case measure => have := HK1.out; have := HK2.out; omega
         case rel => exact ⟨(false), (wrap64 (x26_2 + 1)), (by first | rfl | (simp; done) | (simp [*]; done)), (by first | rfl | (simp; done) | (simp [*]; done)), H', ⟨by have := HK1.out; have := HK2.out; omega⟩, ⟨zR HO_3.out⟩, ⟨zR HO_4.out⟩, ⟨zR HO_17.out⟩, ⟨zk BK454.out⟩, ⟨zB HB.out⟩⟩
       ·rw [if_neg c21] at H
        have c21b0 : decide (x26_2 < (l0_0.length : Int)) = false := decide_eq_false c21
        clear c21
        by_cases c29 : x7_2 = true
        ·subst c29
         rw [zT] at H
         obtain ⟨c30, H⟩ := zi H
         have LMc30 := Aside0.mk c30
         clear c30
         obtain ⟨y468, Ny468⟩ : ∃ y_ : List Int, Aside0 (y_ = (x3_1 ++ [(rd t462 x19_1)])) := ⟨_, ⟨rfl⟩⟩
         (try rw [Option.bind_some] at H)
         (try rw [← Ny468.out] at H)
         have H' := Aside0.mk H
         clear H
         go_wp2_with (first | ((with_reducible refine gate_builtin (b := .append) (xs := #[.tmp 41, .tmp 43]) rfl ?_); at_builtin; refine Kd.R_append (Kd.int .i64) (w0 := w) w.heap.size rfl (.tmp 41) (.tmp 43) 33 3 (.int .i64 0) 8 rfl Try.underlying33 info3 rfl (by decide) (by omega) u3 x3_1 (rd t462 x19_1) [.int .i64 (rd t462 x19_1)] (fun k_ => some k_ ≠ (.slice (some ad465) t462.length co16 : Value).ownBlock) (fun _ => False) rfl rfl ?aP (fun _ hk => hk.elim) ?aF ?aO ?aB ?aS ?aL ?_; (case aP => exact rfl); (case aB => exact (zB HB.out)); (case aF => exact (fun k_ hk => Kd.fresh' (Kd.R_lt (zR HO_17.out)) k_ hk)); (case aO => exact (zR HO_3.out)); (case aS => exact (zS HB.out)); (case aL => have := LMc30.out; omega); intro v469 w31 ho hb hg hat; rw [← Ny468.out] at ho; have n0_ := Aside0.mk (Kd.R_over' (zR HO_4.out) (Kd.R_typed (zR HO_3.out)) (by decide) hg); have n1_ := Aside0.mk (Kd.R_after (ok := (fun _ => True)) (zR (Kd.R_mono HO_17.out (fun _ hk => ⟨trivial, by first | exact hk | (rw [qO] at hk ⊢; exact hk)⟩))) hg hat); have n2_ := Aside0.mk (blk_grown (g := gb454) (o := .cells #[.slice A0_0 l0_0.length c0_0] 40 (0, 0)) (zk BK454.out) hg (Kd.R_ne HO_3.out BK454.out (by decide))); have n3_ := Aside0.mk (hb); have n4_ := Aside0.mk (ho); clear HO_4; clear HO_17; clear BK454; clear HB; clear HO_3; have HO_4 := n0_; have HO_17 := n1_; have BK454 := n2_; have HB := n3_; have HO470 := n4_; clear n0_ n1_ n2_ n3_ n4_; clear ho hb hg hat))
         go_roundg k2
         case measure => have := HK1.out; have := HK2.out; omega
         case rel => exact ⟨(y468), (wrap64 (x19_1 + 1)), (by first | rfl | (simp; done) | (simp [*]; done)), H', ⟨by have := HK1.out; have := HK2.out; omega⟩, ⟨zR HO470.out⟩, ⟨zR HO_4.out⟩, ⟨zR (Kd.R_mono HO_17.out (fun _ hk => hk.2))⟩, ⟨zk BK454.out⟩, ⟨zB HB.out⟩⟩
        ·replace c29 := Bool.eq_false_iff.mpr c29
         subst c29
         rw [zF] at H
         have H' := Aside0.mk H
         clear H
         go_wp2
         go_roundg k2
         case measure => have := HK1.out; have := HK2.out; omega
         case rel => exact ⟨(x3_1), (wrap64 (x19_1 + 1)), (by first | rfl | (simp; done) | (simp [*]; done)), H', ⟨by have := HK1.out; have := HK2.out; omega⟩, ⟨zR HO_3.out⟩, ⟨zR HO_4.out⟩, ⟨zR HO_17.out⟩, ⟨zk BK454.out⟩, ⟨zB HB.out⟩⟩
    ·rw [if_neg c17] at H
     have c17b0 : decide (x19_1 < (t462.length : Int)) = false := decide_eq_false c17
     clear c17
     (first | rw [c17b0] | rw [c17b1] | (simp only [i64_w, i32_w]; rw [c17b0]) | skip)
     obtain rfl := Option.some.inj H
     go_wp2
     go_ret
     exact ⟨_, by first | rfl | (simp [errW_none, errW_some] <;> rfl) | (simp [*, errW_none, errW_some] <;> rfl), zR (Kd.R_mono HO_3.out (fun _ hk => trivial)), zB HB.out⟩
 ·replace c7 := Bool.eq_false_iff.mpr c7
  subst c7
  rw [zF] at H
  obtain rfl := Option.some.inj H
  go_wp2
  go_ret
  exact ⟨_, by first | rfl | (simp [errW_none, errW_some] <;> rfl) | (simp [*, errW_none, errW_some] <;> rfl), by first | exact Kd.R_nil _ _ _ _ _ | exact Kd.N_nil _ _ _ _ _ | exact Kd.V_nil _ _ _ _ _ | exact Kd.Q_nil _ _ _ _ _ | exact Kd.S_nil _ _ _ _ _, zB HB.out⟩

end Go.Proofs.Ytbagfnppeidonaa.PFnSymmetry
