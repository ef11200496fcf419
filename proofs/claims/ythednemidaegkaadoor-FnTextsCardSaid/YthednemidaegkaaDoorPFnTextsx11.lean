-- Written by a program of this session (a turned copy of the kit's print; see NOTES.md).
import Derived.Test.YthednemidaegkaaDoorPFnTextsx0
import Derived.Test.YthednemidaegkaaDoorPFnTextsx8
namespace Go.Proofs.YthednemidaegkaaDoor.PFnTexts
open Go.RowKit Go.Proofs.YthednemidaegkaaDoorW.PrintWords Go.Proofs.YthednemidaegkaaDoorW.PrintLast Go.Proofs.YthednemidaegkaaDoorW.PrintMore
attribute [local go_sem] max2_int min2_int max_two min_two max_three min_three max_four min_four   -- for this text's walks alone
set_option linter.unusedVariables false
set_option linter.unusedSimpArgs false

/-! ### impl_GcdOf: function 63 -/
def impl_GcdOf.l0 : Nat → Int → Int → Option (Int)
 | 0, _, _ => none
 | k + 1, x0, x1 => if x0 = 0 then (some x1) else (impl_GcdOf.l0 k (Int.tmod x1 x0) x0)
def impl_GcdOf.f (k : Nat) (a0 : Int) (a1 : Int) : Option (Int) := (impl_allWithin.f k (([a0, a1] : List Int)) (-1000000) 1000000).bind fun t361 => (if t361 = true then (impl_GcdOf.l0 k (mx a0 (wrap64 (-a0))) (mx a1 (wrap64 (-a1)))) else (some 0))
set_option maxHeartbeats 8000000 in
set_option maxRecDepth 100000 in
theorem impl_GcdOf.calls (k : Nat) (a0 : Int) (a1 : Int) (r : Int) (w : World) (h : impl_GcdOf.f k a0 a1 = some r) :
  Calls Tryd.prog 63 #[.int .i64 a0, .int .i64 a1] w fun e w' => e = .returned (.int .i64 r) ∧ Below w.heap.size w w' := by
 have HB := Aside0.mk (Below.refl w.heap.size w); have H : ((impl_allWithin.f k (([a0, a1] : List Int)) (-1000000) 1000000).bind fun t361 => (if t361 = true then (impl_GcdOf.l0 k (mx a0 (wrap64 (-a0))) (mx a1 (wrap64 (-a1)))) else (some 0))) = some r := h; clear h; obtain ⟨y358, Ny358⟩ : ∃ y_ : List Int, Aside0 (y_ = (([a0, a1] : List Int))) := ⟨_, ⟨rfl⟩⟩; (try rw [Option.bind_some] at H); (try rw [← Ny358.out] at H); obtain ⟨t361, A3, H⟩ := zb H; have HU4 := Aside0.mk H; clear H; go_enter Tryd.func63, Tryd.ntmps63; go_upto_if 9 with (first | ((with_reducible refine gate_dst (N := 7) rfl ?_); refine Kd.R_lit (Kd.int .i64) _ 3 ?hg (N := 7) ?hd (xs := ([a0, a1] : List Int)) (inner := [.int .i64 a0, .int .i64 a1]) (ok := fun _ => True) (okp := fun _ => True) ?hr ?hp (fun _ hk => hk) trivial (Below.refl _ _) (Nat.le_refl _) (by simp) ?_; (case hd => rfl); (case hg => rfl); (case hr => first | (go_simp; done) | (go_simp; rfl)); (case hp => exact (Reps.one (show Kd.M (Kd.int .i64) _ _ _ a0 [.int .i64 a0] from rfl) (Reps.one (show Kd.M (Kd.int .i64) _ _ _ a1 [.int .i64 a1] from rfl) (Reps.none _ _)))); intro v359 w5 ho6 hb hg_ hnew_; clear hg_ hnew_; (first | rw [← Ny358.out] at ho6 | (simp only [Int.reduceToNat] at ho6; rw [← Ny358.out] at ho6)); have HO360 := Aside0.mk (Kd.R_lower ho6 (zS HB.out)); replace HB := Aside0.mk (below_step (zB HB.out) hb); clear hb ho6; obtain ⟨Ao7, co7, eo7⟩ := Kd.R_slice HO360.out; subst eo7) | ((with_reducible refine gate_callee (f := 37) rfl ?_); refine goesL_ (some 8) rfl rfl Tryd.func37 (by kernel_rfl) rfl #[.slice Ao7 y358.length co7, .int .i64 (-1000000), .int .i64 1000000] rfl (by (try simp only [za, zc, zn]); first | done | rfl) ?_; (with_reducible refine (impl_allWithin.calls k _ _ y358 (-1000000) 1000000 t361 _ ?side1 ?side2 A3.out).mono ?_); (case side1 => repeat (first | exact (Kd.R_reads' HO360.out).2.2 | (with_reducible refine Kd.C_alloc ?_ _) | (with_reducible refine Kd.C_drewN ?_ _) | (with_reducible refine Kd.C_drew ?_))); (case side2 => exact (Kd.R_reads' HO360.out).2.1); rintro e w8 ⟨rfl, hb⟩; refine ⟨_, rfl, ?_⟩; replace HO360 := Aside0.mk (Kd.R_below (zR HO360.out) hb); replace HB := Aside0.mk (below_step (zB HB.out) hb); (try clear hb); (try clear hb2); (try clear hk); (try clear hi)))
 (try simp only [Act.put, List.setIfInBounds_toArray, List.set_cons_zero, List.set_cons_succ]); have H := HU4.out; clear HU4
 by_cases c9 : t361 = true
 ·subst c9; rw [zT] at H; obtain ⟨ji10, hji10⟩ : ∃ j_ : Int, (mx a0 (wrap64 (-a0))) = j_ := ⟨_, rfl⟩; replace H : (impl_GcdOf.l0 k ji10 (mx a1 (wrap64 (-a1)))) = some r := by first | (rw [hji10] at H; exact H) | (simp only [hji10] at H ⊢; exact H)
  have hji10_ : (if a0 < (wrap64 (-a0)) then (wrap64 (-a0)) else a0) = ji10 := hji10; obtain ⟨ji11, hji11⟩ : ∃ j_ : Int, (mx a1 (wrap64 (-a1))) = j_ := ⟨_, rfl⟩; replace H : (impl_GcdOf.l0 k ji10 ji11) = some r := by first | (rw [hji11] at H; exact H) | (simp only [hji11] at H ⊢; exact H)
  have hji11_ : (if a1 < (wrap64 (-a1)) then (wrap64 (-a1)) else a1) = ji11 := hji11; have H' := Aside0.mk H; clear H; go_wp2; go_loopg [0, 1] k (fun kq v0 v1 w' => ∃ (x0_1 : Int) (x1_1 : Int), v0 = .int .i64 x0_1 ∧ v1 = .int .i64 x1_1 ∧ Aside0 (impl_GcdOf.l0 kq x0_1 x1_1 = some r) ∧ Aside0 (kq ≤ k) ∧ Aside0 (Below w.heap.size w w'))
  case atStart => exact ⟨(ji10), (ji11), (by first | rfl | (simp; done) | (simp only [← hji10] <;> (first | rfl | simp)) | (simp [*]; done)), (by first | rfl | (simp; done) | (simp only [← hji11] <;> (first | rfl | simp)) | (simp [*]; done)), H', ⟨Nat.le_refl _⟩, ⟨zB HB.out⟩⟩
  case round =>
   clear H'
   try clear c9
   obtain ⟨x0_1, x1_1, rfl, rfl, HA, HK1, HB⟩ := hrel
   cases gk with
   | zero => exact absurd HA.out (by simp [impl_GcdOf.l0])
   | succ k1 =>
    have H := HA.out; clear HA; simp only [impl_GcdOf.l0] at H
    by_cases c12 : x0_1 = 0
    ·rw [if_pos c12] at H; have c12b0 : (x0_1 == 0) = true := beq_iff_eq.mpr c12; have c12b1 : (x0_1 != 0) = false := bne_eq_false_iff_eq.mpr c12; clear c12; (first | rw [c12b0] | rw [c12b1] | (simp only [i64_w, i32_w]; rw [c12b0]) | (rw [c12b2]; simp only [Bool.not_false, Bool.not_true]) | skip); obtain rfl := Option.some.inj H; go_wp2; go_ret
     exact ⟨by first | rfl | (simp [errW_none, errW_some] <;> rfl) | (simp only [← hji10, ← hji11]; first | rfl | (simp [errW_none, errW_some] <;> rfl)) | (simp [*, errW_none, errW_some] <;> rfl), zB HB.out⟩
    ·rw [if_neg c12] at H; have c12b0 : (x0_1 == 0) = false := beq_eq_false_iff_ne.mpr c12; have c12b1 : (x0_1 != 0) = true := bne_iff_ne.mpr c12; (first | rw [c12b0] | rw [c12b1] | (simp only [i64_w, i32_w]; rw [c12b0]) | (rw [c12b2]; simp only [Bool.not_false, Bool.not_true]) | skip); have H' := Aside0.mk H; clear H; go_wp2
     go_roundg k1
     case measure => have := HK1.out; omega
     case rel => exact ⟨(Int.tmod x1_1 x0_1), (x0_1), (by first | rfl | (simp; done) | (simp [*]; done)), (by first | rfl | (simp; done) | (simp [*]; done)), H', ⟨by have := HK1.out; omega⟩, ⟨zB HB.out⟩⟩
 ·replace c9 := Bool.eq_false_iff.mpr c9; subst c9; rw [zF] at H; obtain rfl := Option.some.inj H; go_wp2; go_ret
  exact ⟨by first | rfl | (simp [*, errW_none, errW_some] <;> rfl), zB HB.out⟩

/-! ### impl_GcdOfList: function 39 -/
def impl_GcdOfList.l0 : Nat → Int → List Int → Int → Int → Option (Int)
 | 0, _, _, _, _ => none
 | k + 1, x3, x6, x7, x8 => if x8 < x7 then (if 0 ≤ x8 then (if x8 < (x6.length : Int) then ((impl_GcdOf.f k x3 (rd x6 x8)).bind fun t363 => (impl_GcdOfList.l0 k t363 x6 x7 (wrap64 (x8 + 1)))) else (none)) else (none)) else (some x3)
def impl_GcdOfList.f (k : Nat) (l0 : List Int) : Option (Int) := impl_GcdOfList.l0 k 0 l0 (l0.length : Int) 0
set_option maxHeartbeats 8000000 in
set_option maxRecDepth 100000 in
theorem impl_GcdOfList.calls (k : Nat) (A0 : Option Addr) (c0 : Nat) (l0 : List Int) (r : Int) (w : World) (hr0 : Kd.C (Kd.int .i64) w A0 l0.length l0) (hc0 : l0.length ≤ c0) (h : impl_GcdOfList.f k l0 = some r) :
  Calls Tryd.prog 39 #[.slice A0 l0.length c0] w fun e w' => e = .returned (.int .i64 r) ∧ Below w.heap.size w w' := by
 have HR0 := Aside0.mk hr0; have HC0 := Aside0.mk hc0; clear hr0 hc0; have HB := Aside0.mk (Below.refl w.heap.size w); have H : (impl_GcdOfList.l0 k 0 l0 (l0.length : Int) 0) = some r := h; clear h; have H' := Aside0.mk H; clear H; go_enter Tryd.func39, Tryd.ntmps39; go_wp2; go_loopg [3, 8] k (fun kq v3 v8 w' => ∃ (x3_1 : Int) (x8_1 : Int), v3 = .int .i64 x3_1 ∧ v8 = .int .i64 x8_1 ∧ Aside0 (impl_GcdOfList.l0 kq x3_1 l0 (l0.length : Int) x8_1 = some r) ∧ Aside0 (kq ≤ k) ∧ Aside0 (Below w.heap.size w w'))
 case atStart => exact ⟨(0), (0), (by first | rfl | (simp; done) | (simp [*]; done)), (by first | rfl | (simp; done) | (simp [*]; done)), H', ⟨Nat.le_refl _⟩, ⟨zB HB.out⟩⟩
 case round =>
  clear H'; obtain ⟨x3_1, x8_1, rfl, rfl, HA, HK1, HB⟩ := hrel
  cases gk with
  | zero => exact absurd HA.out (by simp [impl_GcdOfList.l0])
  | succ k1 =>
   have H := HA.out; clear HA; simp only [impl_GcdOfList.l0] at H
   by_cases c2 : x8_1 < (l0.length : Int)
   ·rw [if_pos c2] at H; have c2b0 : decide (x8_1 < (l0.length : Int)) = true := decide_eq_true c2; clear c2; obtain ⟨c3, H⟩ := zi H; have c3b0 : decide (0 ≤ x8_1) = true := decide_eq_true c3; clear c3; obtain ⟨c4, H⟩ := zi H; have c4b0 : decide (x8_1 < (l0.length : Int)) = true := decide_eq_true c4; clear c4; obtain ⟨t363, A5, H⟩ := zb H; have H' := Aside0.mk H; clear H; have p362 : 0 ≤ (x8_1 : Int) := of_decide_eq_true (by assumption); have q362 : x8_1 < (l0.length : Int) := of_decide_eq_true (by assumption); obtain ⟨ad362, e362, hx362_0⟩ := Kd.at_int HR0.out x8_1 p362 q362
    cases e362; (try replace hx362_0 := (HB.out.cell (World.block_lt_of_cell? w _ hx362_0)).trans hx362_0); replace p362 := eq_true p362; replace q362 := eq_true q362; go_wp2_with (first | ((with_reducible refine gate_callee (f := 63) rfl ?_); refine goesL_ (some 14) rfl rfl Tryd.func63 (by kernel_rfl) rfl #[.int .i64 x3_1, .int .i64 (rd l0 x8_1)] rfl (by (try simp only [za, zc, zn]); first | done | rfl) ?_; (with_reducible refine (impl_GcdOf.calls k1 x3_1 (rd l0 x8_1) t363 _ A5.out).mono ?_); rintro e w6 ⟨rfl, hb⟩; refine ⟨_, rfl, ?_⟩; replace HB := Aside0.mk (below_step (zB HB.out) hb); (try clear hb); (try clear hb2); (try clear hk); (try clear hi)))
    go_roundg k1
    case measure => have := HK1.out; omega
    case rel => exact ⟨(t363), (wrap64 (x8_1 + 1)), (by first | rfl | (simp; done) | (simp [*]; done)), (by first | rfl | (simp; done) | (simp [*]; done)), H', ⟨by have := HK1.out; omega⟩, ⟨zB HB.out⟩⟩
   ·rw [if_neg c2] at H; have c2b0 : decide (x8_1 < (l0.length : Int)) = false := decide_eq_false c2; clear c2; obtain rfl := Option.some.inj H; go_wp2; go_ret
    exact ⟨by first | rfl | (simp [*, errW_none, errW_some] <;> rfl), zB HB.out⟩

/-! ### impl_leasts: function 41 -/
mutual
def impl_leasts.l0 : Nat → List Int → Int → List Int → Int → Int → Option (List Int)
 | 0, _, _, _, _, _ => none
 | k + 1, x0, x1, x5, x16, x17 => if x17 < x16 then (if 0 ≤ x17 then (if x17 < (x5.length : Int) then (impl_leasts.l0 k x0 x1 (x5.set (x17 : Int).toNat (-1)) x16 (wrap64 (x17 + 1))) else (none)) else (none)) else (if 0 < (x5.length : Int) then (impl_leasts.l1 k x0 x1 (x5.set (0 : Int).toNat 0) true) else (none))
def impl_leasts.l1 : Nat → List Int → Int → List Int → Bool → Option (List Int)
 | 0, _, _, _, _ => none
 | k + 1, x0, x1, x5, x7 => if x7 = true then (impl_leasts.l2 k x0 x1 x5 false (x5.length : Int) 0) else (some x5)
def impl_leasts.l2 : Nat → List Int → Int → List Int → Bool → Int → Int → Option (List Int)
 | 0, _, _, _, _, _, _ => none
 | k + 1, x0, x1, x5, x7, x28, x29 => if x29 < x28 then (if 0 ≤ x29 then (if x29 < (x5.length : Int) then (if (rd x5 x29) < 0 then (impl_leasts.l2 k x0 x1 x5 x7 x28 (wrap64 (x29 + 1))) else (impl_leasts.l3 k x0 x1 x5 x7 x29 (rd x5 x29) x28 x29 x0 (x0.length : Int) 0)) else (none)) else (none)) else (impl_leasts.l1 k x0 x1 x5 x7)
def impl_leasts.l3 : Nat → List Int → Int → List Int → Bool → Int → Int → Int → Int → List Int → Int → Int → Option (List Int)
 | 0, _, _, _, _, _, _, _, _, _, _, _ => none
 | k + 1, x0, x1, x5, x7, x8, x9, x28, x29, x36, x37, x38 => if x38 < x37 then (if 0 ≤ x38 then (if x38 < (x36.length : Int) then (if x1 = 0 then (none) else (if 0 ≤ (Int.tmod (wrap64 (x8 + (rd x36 x38))) x1) then (if (Int.tmod (wrap64 (x8 + (rd x36 x38))) x1) < (x5.length : Int) then (if (rd x5 (Int.tmod (wrap64 (x8 + (rd x36 x38))) x1)) < 0 then (impl_leasts.l3 k x0 x1 (x5.set ((Int.tmod (wrap64 (x8 + (rd x36 x38))) x1) : Int).toNat (wrap64 (x9 + (rd x36 x38)))) true x8 x9 x28 x29 x36 x37 (wrap64 (x38 + 1))) else (if (wrap64 (x9 + (rd x36 x38))) < (rd x5 (Int.tmod (wrap64 (x8 + (rd x36 x38))) x1)) then (impl_leasts.l3 k x0 x1 (x5.set ((Int.tmod (wrap64 (x8 + (rd x36 x38))) x1) : Int).toNat (wrap64 (x9 + (rd x36 x38)))) true x8 x9 x28 x29 x36 x37 (wrap64 (x38 + 1))) else (impl_leasts.l3 k x0 x1 x5 x7 x8 x9 x28 x29 x36 x37 (wrap64 (x38 + 1))))) else (none)) else (none))) else (none)) else (none)) else (impl_leasts.l2 k x0 x1 x5 x7 x28 (wrap64 (x29 + 1)))
end
def impl_leasts.f (k : Nat) (l0 : List Int) (a1 : Int) : Option (List Int) := if 0 ≤ a1 then (if (a1 : Int).toNat ≤ 35184372088832 then ((some (List.replicate (a1 : Int).toNat 0 : List Int)).bind fun y364 => (impl_leasts.l0 k l0 a1 y364 (y364.length : Int) 0)) else (none)) else (none)
set_option maxHeartbeats 8000000 in
set_option maxRecDepth 100000 in
theorem impl_leasts.calls (k : Nat) (A0 : Option Addr) (c0 : Nat) (l0 : List Int) (a1 : Int) (r : List Int) (w : World) (hr0 : Kd.C (Kd.int .i64) w A0 l0.length l0) (hc0 : l0.length ≤ c0) (h : impl_leasts.f k l0 a1 = some r) :
  Calls Tryd.prog 41 #[.slice A0 l0.length c0, .int .i64 a1] w fun e w' => ∃ v0_ : Value, e = .returned (v0_) ∧ Kd.R (Kd.int .i64) 3 w' w.heap.size (fun _ => True) v0_ r ∧ Below w.heap.size w w' := by
 have HR0 := Aside0.mk hr0; have HC0 := Aside0.mk hc0; clear hr0 hc0; have HB := Aside0.mk (Below.refl w.heap.size w); have H : (if 0 ≤ a1 then (if (a1 : Int).toNat ≤ 35184372088832 then ((some (List.replicate (a1 : Int).toNat 0 : List Int)).bind fun y364 => (impl_leasts.l0 k l0 a1 y364 (y364.length : Int) 0)) else (none)) else (none)) = some r := h; clear h
 by_cases c3 : 0 ≤ a1
 ·rw [if_pos c3] at H; have c3b0 := eq_true c3; have c3b1 : decide (0 ≤ a1) = true := decide_eq_true c3; clear c3; obtain ⟨c4, H⟩ := zi H; have c4b0 := eq_true c4; have c4b1 : decide ((a1 : Int).toNat ≤ 35184372088832) = true := decide_eq_true c4; clear c4; obtain ⟨y364, Ny364⟩ : ∃ y_ : List Int, Aside0 (y_ = (List.replicate (a1 : Int).toNat 0)) := ⟨_, ⟨rfl⟩⟩; (try rw [Option.bind_some] at H); (try rw [← Ny364.out] at H); have H' := Aside0.mk H; clear H; go_enter Tryd.func41, Tryd.ntmps41; go_wp2_with (first | ((with_reducible refine gate_dst (N := 14) rfl ?_); refine Kd.R_make (Kd.int .i64) _ 3 rfl (N := 14) rfl 24 _ _ rfl a1 rfl rfl Tryd.underlying24 (.int .i64 0) 8 info3 rfl (by decide) (by omega) 0 (ok := fun _ => True) (okp := fun _ => True) rfl (fun _ hk => hk) trivial (of_decide_eq_true (by assumption)) (Nat.le_trans (Nat.mul_le_mul_right _ (of_decide_eq_true (by assumption) : a1.toNat ≤ 35184372088832)) (by omega)) (Below.refl _ _) (Nat.le_refl _) ?_; intro v365 w5 ho6 hb hg_ hnew_; clear hg_ hnew_; (first | rw [← Ny364.out] at ho6 | (simp only [Int.reduceToNat] at ho6; rw [← Ny364.out] at ho6)); have HO366 := Aside0.mk (Kd.R_lower ho6 (zS HB.out)); replace HB := Aside0.mk (below_step (zB HB.out) hb); clear hb ho6; obtain ⟨Ao7, co7, eo7⟩ := Kd.R_slice HO366.out; subst eo7)); go_loopg [17] k (fun kq v17 w' => ∃ (x5_1 : List Int) (x17_1 : Int), v17 = .int .i64 x17_1 ∧ Aside0 (impl_leasts.l0 kq l0 a1 x5_1 (y364.length : Int) x17_1 = some r) ∧ Aside0 (kq ≤ k) ∧ Aside0 (Kd.R (Kd.int .i64) 3 w' w.heap.size (fun _ => True) (.slice Ao7 y364.length co7) x5_1) ∧ Aside0 (Below w.heap.size w w'))
  case atStart => exact ⟨(y364), (0), (by first | rfl | (simp; done) | (simp [*]; done)), H', ⟨Nat.le_refl _⟩, ⟨zR HO366.out⟩, ⟨zB HB.out⟩⟩
  case round =>
   clear H'
   try clear c3b0 c3b1 c4b0 c4b1
   obtain ⟨x5_1, x17_1, rfl, HA, HK1, HO_5, HB⟩ := hrel; have hl5_1 := (Kd.R_reads' HO_5.out).1; rw [hl5_1] at HO_5; (try simp only [hl5_1])
   cases gk with
   | zero => exact absurd HA.out (by simp [impl_leasts.l0])
   | succ k1 =>
    have H := HA.out; clear HA; simp only [impl_leasts.l0] at H
    by_cases c8 : x17_1 < (y364.length : Int)
    ·rw [if_pos c8] at H; have c8b0 : decide (x17_1 < (y364.length : Int)) = true := decide_eq_true c8; (try simp only [hl5_1] at c8b0); clear c8; have c8b0h := c8b0; (try simp only [hl5_1] at c8b0h); obtain ⟨c9, H⟩ := zi H; have c9b0 : decide (0 ≤ x17_1) = true := decide_eq_true c9; clear c9; obtain ⟨c10, H⟩ := zi H; have c10b0 : decide (x17_1 < (x5_1.length : Int)) = true := decide_eq_true c10; (try simp only [hl5_1] at c10b0); clear c10; obtain ⟨y367, Ny367⟩ : ∃ y_ : List Int, Aside0 (y_ = (x5_1.set (x17_1 : Int).toNat (-1))) := ⟨_, ⟨rfl⟩⟩; (try rw [Option.bind_some] at H); (try rw [← Ny367.out] at H); have H' := Aside0.mk H; clear H; have p11 : 0 ≤ (x17_1 : Int) := of_decide_eq_true (by assumption); have q11 : (x17_1 : Int) < ((x5_1.length : Int) : Int) := of_decide_eq_true (by assumption); obtain ⟨go11, co11, eo11, gb11, gl11, cl11, HG11⟩ := Kd.R_form HO_5.out (by omega); (first | cases eo11 | (injection eo11 with ea_ en_ ec_; (first | subst ea_ | (injection ea_ with ea_; subst ea_)); subst ec_; clear en_)); have GB11 := Aside0.mk gb11; have GG11 := Aside0.mk HG11; clear gb11 gl11 HG11; obtain ⟨hx11_0, hf11_0⟩ := Kd.R_celln 0 HO_5.out (x17_1 : Int) p11 q11; replace p11 := eq_true p11; replace q11 := eq_true q11; have HP12 := Kd.R_putg HO_5.out (x17_1 : Int) (-1); go_wp2_with (first | ((with_reducible refine gate_store (t := 3) (p := 22) rfl ?_); refine store_event (t := 3) (p := 22) (v := ?vo_w13) (w1 := (wr.setCell ⟨go11, (x17_1 : Int).toNat, none⟩ (.int .i64 (-1)))) ?hg ?ho ?hn ?hr ?_; (case ho => rfl); (case hg => rfl); (case hn => rfl); (case hr => first | (go_simp; done) | (go_simp; rfl)); intro w13 hw; have hg : wr.grownBy w13 (some go11) := (by rw [hw]; exact HP12.2); have hp_ : Kd.R (Kd.int .i64) 3 w13 w.heap.size (fun _ => True) (.slice (some ⟨go11, 0, none⟩) x5_1.length co7) y367 := (by rw [hw, Ny367.out]; exact HP12.1); clear HP12; replace HO_5 := Aside0.mk (hp_); replace HB := Aside0.mk ((by rw [hw]; exact below_set (HB.out) GB11.out : Below w.heap.size w w13)); clear hg hw hp_)); (try simp only [← hl5_1])
     go_roundg k1
     case measure => have := HK1.out; omega
     case rel => exact ⟨(y367), (wrap64 (x17_1 + 1)), (by first | rfl | (simp; done) | (simp [*]; done)), H', ⟨by have := HK1.out; omega⟩, ⟨by (try simp only [hl5_1]); (with_reducible repeat (first | apply Kd.R_alloc | apply Kd.R_drewN | apply Kd.R_drew)); exact HO_5.out⟩, ⟨zB HB.out⟩⟩
    ·rw [if_neg c8] at H; have c8b0 : decide (x17_1 < (y364.length : Int)) = false := decide_eq_false c8; (try simp only [hl5_1] at c8b0); clear c8; (try simp only [hl5_1] at c8b0); obtain ⟨c14, H⟩ := zi H; have c14b0 : decide (0 < (x5_1.length : Int)) = true := decide_eq_true c14; (try simp only [hl5_1] at c14b0); have c14b1 : decide (0 < x5_1.length) = true := decide_eq_true (by omega); (try simp only [hl5_1] at c14b1); clear c14; obtain ⟨y368, Ny368⟩ : ∃ y_ : List Int, Aside0 (y_ = (x5_1.set (0 : Int).toNat 0)) := ⟨_, ⟨rfl⟩⟩; (try rw [Option.bind_some] at H); (try rw [← Ny368.out] at H); have H' := Aside0.mk H; clear H; have p15 : 0 ≤ (0 : Int) := (by omega); have q15 : (0 : Int) < ((x5_1.length : Int) : Int) := of_decide_eq_true (by assumption); have qi15 : (0 < x5_1.length) = True := eq_true (by omega); obtain ⟨go15, co15, eo15, gb15, gl15, cl15, HG15⟩ := Kd.R_form HO_5.out (by omega); (first | cases eo15 | (injection eo15 with ea_ en_ ec_; (first | subst ea_ | (injection ea_ with ea_; subst ea_)); subst ec_; clear en_)); have GB15 := Aside0.mk gb15; have GG15 := Aside0.mk HG15; clear gb15 gl15 HG15; obtain ⟨hx15_0, hf15_0⟩ := Kd.R_celln 0 HO_5.out (0 : Int) p15 q15; (try rw [show ((0 : Int)).toNat = 0 from rfl] at hx15_0); (try simp only [Nat.reduceMul, Nat.zero_mul, Nat.zero_add, Nat.reduceAdd] at hx15_0); (try rw [show ((0 : Int)).toNat = 0 from rfl] at hf15_0); (try simp only [Nat.reduceMul, Nat.zero_mul, Nat.zero_add, Nat.reduceAdd] at hf15_0); replace p15 := eq_true p15; replace q15 := eq_true q15; have HP16 := Kd.R_putg HO_5.out (0 : Int) 0; go_wp2_with (first | ((with_reducible refine gate_store (t := 3) (p := 25) rfl ?_); refine store_event (t := 3) (p := 25) (v := ?vo_w17) (w1 := (wr.setCell ⟨go15, (0 : Int).toNat, none⟩ (.int .i64 0))) ?hg ?ho ?hn ?hr ?_; (case ho => rfl); (case hg => rfl); (case hn => rfl); (case hr => first | (go_simp; done) | (go_simp; rfl)); intro w17 hw; have hg : wr.grownBy w17 (some go15) := (by rw [hw]; exact HP16.2); have hp_ : Kd.R (Kd.int .i64) 3 w17 w.heap.size (fun _ => True) (.slice (some ⟨go15, 0, none⟩) x5_1.length co7) y368 := (by rw [hw, Ny368.out]; exact HP16.1); clear HP16; replace HO_5 := Aside0.mk (hp_); replace HB := Aside0.mk ((by rw [hw]; exact below_set (HB.out) GB15.out : Below w.heap.size w w17)); clear hg hw hp_)); go_loopg [7] k1 (fun kq v7 w' => ∃ (x5_2 : List Int) (x7_2 : Bool), v7 = .bool x7_2 ∧ Aside0 (impl_leasts.l1 kq l0 a1 x5_2 x7_2 = some r) ∧ Aside0 (kq ≤ k1) ∧ Aside0 (Kd.R (Kd.int .i64) 3 w' w.heap.size (fun _ => True) (.slice (some ⟨go15, 0, none⟩) x5_1.length co7) x5_2) ∧ Aside0 (Below w.heap.size w w'))
     case atStart => exact ⟨(y368), (true), (by first | rfl | (simp; done) | (simp [*]; done)), H', ⟨Nat.le_refl _⟩, ⟨by (try simp only [hl5_1]); (with_reducible repeat (first | apply Kd.R_alloc | apply Kd.R_drewN | apply Kd.R_drew)); exact HO_5.out⟩, ⟨zB HB.out⟩⟩
     case round =>
      clear H'
      try clear c8b0 c14b0 c14b1 p15 q15 qi15 hx15_0 p15 q15
      obtain ⟨x5_2, x7_2, rfl, HA, HK2, HO_5, HB⟩ := hrel; have hl5_2 := (Kd.R_reads' HO_5.out).1; rw [hl5_2] at HO_5; (try simp only [hl5_2])
      cases gk with
      | zero => exact absurd HA.out (by simp [impl_leasts.l1])
      | succ k2 =>
       have H := HA.out; clear HA; simp only [impl_leasts.l1] at H
       by_cases c18 : x7_2 = true
       ·subst c18; rw [zT] at H; have H' := Aside0.mk H; clear H; go_wp2; go_loopg [7, 29] k2 (fun kq v7 v29 w' => ∃ (x5_3 : List Int) (x7_3 : Bool) (x29_3 : Int), v7 = .bool x7_3 ∧ v29 = .int .i64 x29_3 ∧ Aside0 (impl_leasts.l2 kq l0 a1 x5_3 x7_3 (x5_2.length : Int) x29_3 = some r) ∧ Aside0 (kq ≤ k2) ∧ Aside0 (Kd.R (Kd.int .i64) 3 w' w.heap.size (fun _ => True) (.slice (some ⟨go15, 0, none⟩) x5_2.length co7) x5_3) ∧ Aside0 (Below w.heap.size w w'))
        case atStart => exact ⟨(x5_2), (false), (0), (by first | rfl | (simp; done) | (simp [*]; done)), (by first | rfl | (simp; done) | (simp [*]; done)), H', ⟨Nat.le_refl _⟩, ⟨by (try simp only [hl5_1]); (try simp only [hl5_2]); (with_reducible repeat (first | apply Kd.R_alloc | apply Kd.R_drewN | apply Kd.R_drew)); exact HO_5.out⟩, ⟨zB HB.out⟩⟩
        case round =>
         clear H'
         try clear c18
         obtain ⟨x5_3, x7_3, x29_3, rfl, rfl, HA, HK3, HO_5, HB⟩ := hrel; have hl5_3 := (Kd.R_reads' HO_5.out).1; rw [hl5_3] at HO_5; (try simp only [hl5_3])
         cases gk with
         | zero => exact absurd HA.out (by simp [impl_leasts.l2])
         | succ k3 =>
          have H := HA.out; clear HA; simp only [impl_leasts.l2] at H
          by_cases c19 : x29_3 < (x5_2.length : Int)
          ·rw [if_pos c19] at H; have c19b0 : decide (x29_3 < (x5_2.length : Int)) = true := decide_eq_true c19; (try simp only [hl5_1, hl5_2, hl5_3] at c19b0); clear c19; obtain ⟨c20, H⟩ := zi H; have c20b0 : decide (0 ≤ x29_3) = true := decide_eq_true c20; clear c20; obtain ⟨c21, H⟩ := zi H; have c21b0 : decide (x29_3 < (x5_3.length : Int)) = true := decide_eq_true c21; (try simp only [hl5_1, hl5_2, hl5_3] at c21b0); clear c21
           by_cases c22 : (rd x5_3 x29_3) < 0
           ·rw [if_pos c22] at H; have c22b0 : decide ((rd x5_3 x29_3) < 0) = true := decide_eq_true c22; clear c22; have H' := Aside0.mk H; clear H; have p369 : 0 ≤ (x29_3 : Int) := of_decide_eq_true (by assumption); have q369 : x29_3 < (x5_3.length : Int) := of_decide_eq_true (by assumption); obtain ⟨ad369, e369, hx369_0⟩ := Kd.at_int (Kd.R_reads' HO_5.out).2.2 x29_3 p369 q369; obtain rfl : (⟨go15, 0, none⟩ : Addr) = ad369 := (by injection e369); (first | simp only [add_plain] at hx369_0 | simp only [add_at] at hx369_0 | simp only [Addr.add, Nat.zero_add] at hx369_0 | skip); replace p369 := eq_true p369; replace q369 := eq_true q369; go_wp2; (try simp only [← hl5_3])
            go_roundg k3
            case measure => have := HK1.out; have := HK2.out; have := HK3.out; omega
            case rel => exact ⟨(x5_3), (x7_3), (wrap64 (x29_3 + 1)), (by first | rfl | (simp; done) | (simp [*]; done)), (by first | rfl | (simp; done) | (simp [*]; done)), H', ⟨by have := HK1.out; have := HK2.out; have := HK3.out; omega⟩, ⟨by (try simp only [hl5_1]); (try simp only [hl5_2]); (try simp only [hl5_3]); (with_reducible repeat (first | apply Kd.R_alloc | apply Kd.R_drewN | apply Kd.R_drew)); exact HO_5.out⟩, ⟨zB HB.out⟩⟩
           ·rw [if_neg c22] at H; have c22b0 : decide ((rd x5_3 x29_3) < 0) = false := decide_eq_false c22; clear c22; have H' := Aside0.mk H; clear H; have p369 : 0 ≤ (x29_3 : Int) := of_decide_eq_true (by assumption); have q369 : x29_3 < (x5_3.length : Int) := of_decide_eq_true (by assumption); obtain ⟨ad369, e369, hx369_0⟩ := Kd.at_int (Kd.R_reads' HO_5.out).2.2 x29_3 p369 q369; obtain rfl : (⟨go15, 0, none⟩ : Addr) = ad369 := (by injection e369); (first | simp only [add_plain] at hx369_0 | simp only [add_at] at hx369_0 | simp only [Addr.add, Nat.zero_add] at hx369_0 | skip); replace p369 := eq_true p369; replace q369 := eq_true q369; go_wp2; go_loopg [7, 38] k3 (fun kq v7 v38 w' => ∃ (x5_4 : List Int) (x7_4 : Bool) (x38_4 : Int), v7 = .bool x7_4 ∧ v38 = .int .i64 x38_4 ∧ Aside0 (impl_leasts.l3 kq l0 a1 x5_4 x7_4 x29_3 (rd x5_3 x29_3) (x5_2.length : Int) x29_3 l0 (l0.length : Int) x38_4 = some r) ∧ Aside0 (kq ≤ k3) ∧ Aside0 (Kd.R (Kd.int .i64) 3 w' w.heap.size (fun _ => True) (.slice (some ⟨go15, 0, none⟩) x5_3.length co7) x5_4) ∧ Aside0 (Below w.heap.size w w'))
            case atStart => exact ⟨(x5_3), (x7_3), (0), (by first | rfl | (simp; done) | (simp [*]; done)), (by first | rfl | (simp; done) | (simp [*]; done)), H', ⟨Nat.le_refl _⟩, ⟨by (try simp only [hl5_1]); (try simp only [hl5_2]); (try simp only [hl5_3]); (with_reducible repeat (first | apply Kd.R_alloc | apply Kd.R_drewN | apply Kd.R_drew)); exact HO_5.out⟩, ⟨zB HB.out⟩⟩
            case round =>
             clear H'
             try clear c19b0 c20b0 c21b0 c22b0 hx369_0 p369 q369
             obtain ⟨x5_4, x7_4, x38_4, rfl, rfl, HA, HK4, HO_5, HB⟩ := hrel; have hl5_4 := (Kd.R_reads' HO_5.out).1; rw [hl5_4] at HO_5; (try simp only [hl5_4])
             cases gk with
             | zero => exact absurd HA.out (by simp [impl_leasts.l3])
             | succ k4 =>
              have H := HA.out; clear HA; simp only [impl_leasts.l3] at H
              by_cases c23 : x38_4 < (l0.length : Int)
              ·rw [if_pos c23] at H; have c23b0 : decide (x38_4 < (l0.length : Int)) = true := decide_eq_true c23; (try simp only [hl5_1, hl5_2, hl5_3, hl5_4] at c23b0); clear c23; obtain ⟨c24, H⟩ := zi H; have c24b0 : decide (0 ≤ x38_4) = true := decide_eq_true c24; clear c24; obtain ⟨c25, H⟩ := zi H; have c25b0 : decide (x38_4 < (l0.length : Int)) = true := decide_eq_true c25; (try simp only [hl5_1, hl5_2, hl5_3, hl5_4] at c25b0); clear c25
               by_cases c26 : a1 = 0
               ·rw [if_pos c26] at H; exact absurd H (by simp)
               ·rw [if_neg c26] at H; have c26b0 : (a1 == 0) = false := beq_eq_false_iff_ne.mpr c26; have c26b1 : (a1 != 0) = true := bne_iff_ne.mpr c26; obtain ⟨ji27, hji27⟩ : ∃ j_ : Int, (Int.tmod (wrap64 (x29_3 + (rd l0 x38_4))) a1) = j_ := ⟨_, rfl⟩; replace H : (if 0 ≤ (ji27) then (if (ji27) < (x5_4.length : Int) then (if (rd x5_4 (ji27)) < 0 then (impl_leasts.l3 k4 l0 a1 (x5_4.set ((ji27) : Int).toNat (wrap64 ((rd x5_3 x29_3) + (rd l0 x38_4)))) true x29_3 (rd x5_3 x29_3) (x5_2.length : Int) x29_3 l0 (l0.length : Int) (wrap64 (x38_4 + 1))) else (if (wrap64 ((rd x5_3 x29_3) + (rd l0 x38_4))) < (rd x5_4 (ji27)) then (impl_leasts.l3 k4 l0 a1 (x5_4.set ((ji27) : Int).toNat (wrap64 ((rd x5_3 x29_3) + (rd l0 x38_4)))) true x29_3 (rd x5_3 x29_3) (x5_2.length : Int) x29_3 l0 (l0.length : Int) (wrap64 (x38_4 + 1))) else (impl_leasts.l3 k4 l0 a1 x5_4 x7_4 x29_3 (rd x5_3 x29_3) (x5_2.length : Int) x29_3 l0 (l0.length : Int) (wrap64 (x38_4 + 1))))) else (none)) else (none)) = some r := by first | (rw [hji27] at H; exact H) | (simp only [hji27] at H ⊢; exact H)
                obtain ⟨c28, H⟩ := zi H; have c28b0 : decide (0 ≤ (ji27)) = true := decide_eq_true c28; clear c28; obtain ⟨c29, H⟩ := zi H; have c29b0 : decide ((ji27) < (x5_4.length : Int)) = true := decide_eq_true c29; (try simp only [hl5_1, hl5_2, hl5_3, hl5_4] at c29b0); clear c29
                by_cases c30 : (rd x5_4 (ji27)) < 0
                ·rw [if_pos c30] at H; have c30b0 : decide ((rd x5_4 (ji27)) < 0) = true := decide_eq_true c30; clear c30; obtain ⟨y372, Ny372⟩ : ∃ y_ : List Int, Aside0 (y_ = (x5_4.set ((ji27) : Int).toNat (wrap64 ((rd x5_3 x29_3) + (rd l0 x38_4))))) := ⟨_, ⟨rfl⟩⟩; (try rw [Option.bind_some] at H); (try rw [← Ny372.out] at H); have H' := Aside0.mk H; clear H; have p370 : 0 ≤ (x38_4 : Int) := of_decide_eq_true (by assumption); have q370 : x38_4 < (l0.length : Int) := of_decide_eq_true (by assumption); obtain ⟨ad370, e370, hx370_0⟩ := Kd.at_int HR0.out x38_4 p370 q370
                 cases e370; (try replace hx370_0 := (HB.out.cell (World.block_lt_of_cell? w _ hx370_0)).trans hx370_0); replace p370 := eq_true p370; replace q370 := eq_true q370; have p371 : 0 ≤ ((ji27) : Int) := of_decide_eq_true (by assumption); have q371 : (ji27) < (x5_4.length : Int) := of_decide_eq_true (by assumption); obtain ⟨ad371, e371, hx371_0⟩ := Kd.at_int (Kd.R_reads' HO_5.out).2.2 (ji27) p371 q371; obtain rfl : (⟨go15, 0, none⟩ : Addr) = ad371 := (by injection e371); (first | simp only [add_plain] at hx371_0 | simp only [add_at] at hx371_0 | simp only [Addr.add, Nat.zero_add] at hx371_0 | skip); replace p371 := eq_true p371; replace q371 := eq_true q371; have p31 : 0 ≤ ((ji27) : Int) := of_decide_eq_true (by assumption); have q31 : ((ji27) : Int) < ((x5_4.length : Int) : Int) := of_decide_eq_true (by assumption); obtain ⟨hx31_0, hf31_0⟩ := Kd.R_celln 0 HO_5.out ((ji27) : Int) p31 q31; replace p31 := eq_true p31; replace q31 := eq_true q31; have HP32 := Kd.R_putg HO_5.out ((ji27) : Int) (wrap64 ((rd x5_3 x29_3) + (rd l0 x38_4))); go_wp2_with (first | ((with_reducible refine gate_store (t := 3) (p := 67) rfl ?_); refine store_event (t := 3) (p := 67) (v := ?vo_w33) (w1 := (wr.setCell ⟨go15, ((ji27) : Int).toNat, none⟩ (.int .i64 (wrap64 ((rd x5_3 x29_3) + (rd l0 x38_4)))))) ?hg ?ho ?hn ?hr ?_; (case ho => rfl); (case hg => rfl); (case hn => rfl); (case hr => first | (go_simp; done) | (go_simp; rfl)); intro w33 hw; have hg : wr.grownBy w33 (some go15) := (by rw [hw]; exact HP32.2); have hp_ : Kd.R (Kd.int .i64) 3 w33 w.heap.size (fun _ => True) (.slice (some ⟨go15, 0, none⟩) x5_4.length co7) y372 := (by rw [hw, Ny372.out]; exact HP32.1); clear HP32; replace HO_5 := Aside0.mk (hp_); replace HB := Aside0.mk ((by rw [hw]; exact below_set (HB.out) GB15.out : Below w.heap.size w w33)); clear hg hw hp_)); (try simp only [← hl5_4])
                 go_roundg k4
                 case measure => have := HK1.out; have := HK2.out; have := HK3.out; have := HK4.out; omega
                 case rel => exact ⟨(y372), (true), (wrap64 (x38_4 + 1)), (by first | rfl | (simp; done) | (simp [*]; done)), (by first | rfl | (simp; done) | (simp [*]; done)), H', ⟨by have := HK1.out; have := HK2.out; have := HK3.out; have := HK4.out; omega⟩, ⟨by (try simp only [hl5_1]); (try simp only [hl5_2]); (try simp only [hl5_3]); (try simp only [hl5_4]); (with_reducible repeat (first | apply Kd.R_alloc | apply Kd.R_drewN | apply Kd.R_drew)); exact HO_5.out⟩, ⟨zB HB.out⟩⟩
                ·rw [if_neg c30] at H; have c30b0 : decide ((rd x5_4 (ji27)) < 0) = false := decide_eq_false c30; clear c30
                 by_cases c34 : (wrap64 ((rd x5_3 x29_3) + (rd l0 x38_4))) < (rd x5_4 (ji27))
                 ·rw [if_pos c34] at H; have c34b0 : decide ((wrap64 ((rd x5_3 x29_3) + (rd l0 x38_4))) < (rd x5_4 (ji27))) = true := decide_eq_true c34; clear c34; obtain ⟨y374, Ny374⟩ : ∃ y_ : List Int, Aside0 (y_ = (x5_4.set ((ji27) : Int).toNat (wrap64 ((rd x5_3 x29_3) + (rd l0 x38_4))))) := ⟨_, ⟨rfl⟩⟩; (try rw [Option.bind_some] at H); (try rw [← Ny374.out] at H); have H' := Aside0.mk H; clear H; have p370 : 0 ≤ (x38_4 : Int) := of_decide_eq_true (by assumption); have q370 : x38_4 < (l0.length : Int) := of_decide_eq_true (by assumption); obtain ⟨ad370, e370, hx370_0⟩ := Kd.at_int HR0.out x38_4 p370 q370
                  cases e370; (try replace hx370_0 := (HB.out.cell (World.block_lt_of_cell? w _ hx370_0)).trans hx370_0); replace p370 := eq_true p370; replace q370 := eq_true q370; have p371 : 0 ≤ ((ji27) : Int) := of_decide_eq_true (by assumption); have q371 : (ji27) < (x5_4.length : Int) := of_decide_eq_true (by assumption); obtain ⟨ad371, e371, hx371_0⟩ := Kd.at_int (Kd.R_reads' HO_5.out).2.2 (ji27) p371 q371; obtain rfl : (⟨go15, 0, none⟩ : Addr) = ad371 := (by injection e371); (first | simp only [add_plain] at hx371_0 | simp only [add_at] at hx371_0 | simp only [Addr.add, Nat.zero_add] at hx371_0 | skip); replace p371 := eq_true p371; replace q371 := eq_true q371; have p373 : 0 ≤ ((ji27) : Int) := of_decide_eq_true (by assumption); have q373 : (ji27) < (x5_4.length : Int) := of_decide_eq_true (by assumption); obtain ⟨ad373, e373, hx373_0⟩ := Kd.at_int (Kd.R_reads' HO_5.out).2.2 (ji27) p373 q373; obtain rfl : (⟨go15, 0, none⟩ : Addr) = ad373 := (by injection e373); (first | simp only [add_plain] at hx373_0 | simp only [add_at] at hx373_0 | simp only [Addr.add, Nat.zero_add] at hx373_0 | skip); replace p373 := eq_true p373; replace q373 := eq_true q373; have p35 : 0 ≤ ((ji27) : Int) := of_decide_eq_true (by assumption); have q35 : ((ji27) : Int) < ((x5_4.length : Int) : Int) := of_decide_eq_true (by assumption); obtain ⟨hx35_0, hf35_0⟩ := Kd.R_celln 0 HO_5.out ((ji27) : Int) p35 q35; replace p35 := eq_true p35; replace q35 := eq_true q35; have HP36 := Kd.R_putg HO_5.out ((ji27) : Int) (wrap64 ((rd x5_3 x29_3) + (rd l0 x38_4))); go_wp2_with (first | ((with_reducible refine gate_store (t := 3) (p := 67) rfl ?_); refine store_event (t := 3) (p := 67) (v := ?vo_w37) (w1 := (wr.setCell ⟨go15, ((ji27) : Int).toNat, none⟩ (.int .i64 (wrap64 ((rd x5_3 x29_3) + (rd l0 x38_4)))))) ?hg ?ho ?hn ?hr ?_; (case ho => rfl); (case hg => rfl); (case hn => rfl); (case hr => first | (go_simp; done) | (go_simp; rfl)); intro w37 hw; have hg : wr.grownBy w37 (some go15) := (by rw [hw]; exact HP36.2); have hp_ : Kd.R (Kd.int .i64) 3 w37 w.heap.size (fun _ => True) (.slice (some ⟨go15, 0, none⟩) x5_4.length co7) y374 := (by rw [hw, Ny374.out]; exact HP36.1); clear HP36; replace HO_5 := Aside0.mk (hp_); replace HB := Aside0.mk ((by rw [hw]; exact below_set (HB.out) GB15.out : Below w.heap.size w w37)); clear hg hw hp_)); (try simp only [← hl5_4])
                  go_roundg k4
                  case measure => have := HK1.out; have := HK2.out; have := HK3.out; have := HK4.out; omega
                  case rel => exact ⟨(y374), (true), (wrap64 (x38_4 + 1)), (by first | rfl | (simp; done) | (simp [*]; done)), (by first | rfl | (simp; done) | (simp [*]; done)), H', ⟨by have := HK1.out; have := HK2.out; have := HK3.out; have := HK4.out; omega⟩, ⟨by (try simp only [hl5_1]); (try simp only [hl5_2]); (try simp only [hl5_3]); (try simp only [hl5_4]); (with_reducible repeat (first | apply Kd.R_alloc | apply Kd.R_drewN | apply Kd.R_drew)); exact HO_5.out⟩, ⟨zB HB.out⟩⟩
                 ·rw [if_neg c34] at H; have c34b0 : decide ((wrap64 ((rd x5_3 x29_3) + (rd l0 x38_4))) < (rd x5_4 (ji27))) = false := decide_eq_false c34; clear c34; have H' := Aside0.mk H; clear H; have p370 : 0 ≤ (x38_4 : Int) := of_decide_eq_true (by assumption); have q370 : x38_4 < (l0.length : Int) := of_decide_eq_true (by assumption); obtain ⟨ad370, e370, hx370_0⟩ := Kd.at_int HR0.out x38_4 p370 q370
                  cases e370; (try replace hx370_0 := (HB.out.cell (World.block_lt_of_cell? w _ hx370_0)).trans hx370_0); replace p370 := eq_true p370; replace q370 := eq_true q370; have p371 : 0 ≤ ((ji27) : Int) := of_decide_eq_true (by assumption); have q371 : (ji27) < (x5_4.length : Int) := of_decide_eq_true (by assumption); obtain ⟨ad371, e371, hx371_0⟩ := Kd.at_int (Kd.R_reads' HO_5.out).2.2 (ji27) p371 q371; obtain rfl : (⟨go15, 0, none⟩ : Addr) = ad371 := (by injection e371); (first | simp only [add_plain] at hx371_0 | simp only [add_at] at hx371_0 | simp only [Addr.add, Nat.zero_add] at hx371_0 | skip); replace p371 := eq_true p371; replace q371 := eq_true q371; have p373 : 0 ≤ ((ji27) : Int) := of_decide_eq_true (by assumption); have q373 : (ji27) < (x5_4.length : Int) := of_decide_eq_true (by assumption); obtain ⟨ad373, e373, hx373_0⟩ := Kd.at_int (Kd.R_reads' HO_5.out).2.2 (ji27) p373 q373; obtain rfl : (⟨go15, 0, none⟩ : Addr) = ad373 := (by injection e373); (first | simp only [add_plain] at hx373_0 | simp only [add_at] at hx373_0 | simp only [Addr.add, Nat.zero_add] at hx373_0 | skip); replace p373 := eq_true p373; replace q373 := eq_true q373; go_wp2; (try simp only [← hl5_4])
                  go_roundg k4
                  case measure => have := HK1.out; have := HK2.out; have := HK3.out; have := HK4.out; omega
                  case rel => exact ⟨(x5_4), (x7_4), (wrap64 (x38_4 + 1)), (by first | rfl | (simp; done) | (simp [*]; done)), (by first | rfl | (simp; done) | (simp [*]; done)), H', ⟨by have := HK1.out; have := HK2.out; have := HK3.out; have := HK4.out; omega⟩, ⟨by (try simp only [hl5_1]); (try simp only [hl5_2]); (try simp only [hl5_3]); (try simp only [hl5_4]); (with_reducible repeat (first | apply Kd.R_alloc | apply Kd.R_drewN | apply Kd.R_drew)); exact HO_5.out⟩, ⟨zB HB.out⟩⟩
              ·rw [if_neg c23] at H; have c23b0 : decide (x38_4 < (l0.length : Int)) = false := decide_eq_false c23; (try simp only [hl5_1, hl5_2, hl5_3, hl5_4] at c23b0); clear c23; have H' := Aside0.mk H; clear H; go_wp2; (try simp only [← hl5_3, ← hl5_4])
               go_roundg k4
               case measure => have := HK1.out; have := HK2.out; have := HK3.out; have := HK4.out; omega
               case rel => exact ⟨(x5_4), (x7_4), (wrap64 (x29_3 + 1)), (by first | rfl | (simp; done) | (simp [*]; done)), (by first | rfl | (simp; done) | (simp [*]; done)), H', ⟨by have := HK1.out; have := HK2.out; have := HK3.out; have := HK4.out; omega⟩, ⟨by (try simp only [hl5_1]); (try simp only [hl5_2]); (try simp only [hl5_3]); (try simp only [hl5_4]); (with_reducible repeat (first | apply Kd.R_alloc | apply Kd.R_drewN | apply Kd.R_drew)); exact HO_5.out⟩, ⟨zB HB.out⟩⟩
          ·rw [if_neg c19] at H; have c19b0 : decide (x29_3 < (x5_2.length : Int)) = false := decide_eq_false c19; (try simp only [hl5_1, hl5_2, hl5_3] at c19b0); clear c19; have H' := Aside0.mk H; clear H; go_wp2; (try simp only [← hl5_2, ← hl5_3])
           go_roundg k3
           case measure => have := HK1.out; have := HK2.out; have := HK3.out; omega
           case rel => exact ⟨(x5_3), (x7_3), (by first | rfl | (simp; done) | (simp [*]; done)), H', ⟨by have := HK1.out; have := HK2.out; have := HK3.out; omega⟩, ⟨by (try simp only [hl5_1]); (try simp only [hl5_2]); (try simp only [hl5_3]); (with_reducible repeat (first | apply Kd.R_alloc | apply Kd.R_drewN | apply Kd.R_drew)); exact HO_5.out⟩, ⟨zB HB.out⟩⟩
       ·replace c18 := Bool.eq_false_iff.mpr c18; subst c18; rw [zF] at H; obtain rfl := Option.some.inj H; go_wp2; go_ret
        exact ⟨_, by first | rfl | (simp [*, errW_none, errW_some] <;> rfl), zR HO_5.out, zB HB.out⟩
 ·rw [if_neg c3] at H; exact absurd H (by simp)

/-! ### impl_usable: function 64 -/
def impl_usable.f (k : Nat) (l0 : List Int) : Option (Bool) := (impl_within.f (l0.length : Int) 1 20).bind fun t375 => (if t375 = true then ((impl_allWithin.f k l0 1 60).bind fun t376 => (some t376)) else (some false))
set_option maxHeartbeats 8000000 in
set_option maxRecDepth 100000 in
theorem impl_usable.calls (k : Nat) (A0 : Option Addr) (c0 : Nat) (l0 : List Int) (r : Bool) (w : World) (hr0 : Kd.C (Kd.int .i64) w A0 l0.length l0) (hc0 : l0.length ≤ c0) (h : impl_usable.f k l0 = some r) :
  Calls Tryd.prog 64 #[.slice A0 l0.length c0] w fun e w' => e = .returned (.bool r) ∧ Below w.heap.size w w' := by
 have HR0 := Aside0.mk hr0; have HC0 := Aside0.mk hc0; clear hr0 hc0; have HB := Aside0.mk (Below.refl w.heap.size w); have H : ((impl_within.f (l0.length : Int) 1 20).bind fun t375 => (if t375 = true then ((impl_allWithin.f k l0 1 60).bind fun t376 => (some t376)) else (some false))) = some r := h; clear h; obtain ⟨t375, A2, H⟩ := zb H
 by_cases c3 : t375 = true
 ·subst c3; rw [zT] at H; obtain ⟨t376, A4, H⟩ := zb H; obtain rfl := Option.some.inj H; go_enter Tryd.func64, Tryd.ntmps64; go_wp2_with (first | ((with_reducible refine gate_callee (f := 36) rfl ?_); refine goesL_ (some 5) rfl rfl Tryd.func36 (by kernel_rfl) rfl #[.int .i64 (l0.length : Int), .int .i64 1, .int .i64 20] rfl (by (try simp only [za, zc, zn]); first | done | rfl) ?_; (with_reducible refine (impl_within.calls (l0.length : Int) 1 20 true _ A2.out).mono ?_); rintro e w5 ⟨rfl, hb⟩; refine ⟨_, rfl, ?_⟩; replace HB := Aside0.mk (below_step (zB HB.out) hb); (try clear hb); (try clear hb2); (try clear hk); (try clear hi)) | (go_at_call 37; (with_reducible refine (impl_allWithin.calls k _ _ l0 1 60 t376 _ ?side1 ?side2 A4.out).mono ?_); (case side1 => exact zC (Kd.C_below HR0.out HB.out)); (case side2 => exact HC0.out); rintro e w6 ⟨rfl, hb⟩; replace HB := Aside0.mk (below_step (zB HB.out) hb); (try clear hb); (try clear hb2); (try clear hk); (try clear hi))); go_ret
  exact ⟨by first | rfl | (simp [*, errW_none, errW_some] <;> rfl), zB HB.out⟩
 ·replace c3 := Bool.eq_false_iff.mpr c3; subst c3; rw [zF] at H; obtain rfl := Option.some.inj H; go_enter Tryd.func64, Tryd.ntmps64; go_wp2_with (first | ((with_reducible refine gate_callee (f := 36) rfl ?_); refine goesL_ (some 5) rfl rfl Tryd.func36 (by kernel_rfl) rfl #[.int .i64 (l0.length : Int), .int .i64 1, .int .i64 20] rfl (by (try simp only [za, zc, zn]); first | done | rfl) ?_; (with_reducible refine (impl_within.calls (l0.length : Int) 1 20 false _ A2.out).mono ?_); rintro e w7 ⟨rfl, hb⟩; refine ⟨_, rfl, ?_⟩; replace HB := Aside0.mk (below_step (zB HB.out) hb); (try clear hb); (try clear hb2); (try clear hk); (try clear hi))); go_ret
  exact ⟨by first | rfl | (simp [*, errW_none, errW_some] <;> rfl), zB HB.out⟩

/-! ### impl_Generates: function 40 -/
def impl_Generates.f (k : Nat) (l0 : List Int) (a1 : Int) : Option (Bool) := (impl_usable.f k l0).bind fun t377 => (if t377 = true then ((impl_within.f a1 0 1000000).bind fun t378 => (if t378 = true then (if 0 < (l0.length : Int) then ((impl_leasts.f k l0 (rd l0 0)).bind fun t380 => (if (rd l0 0) = 0 then (none) else (if 0 ≤ (Int.tmod a1 (rd l0 0)) then (if (Int.tmod a1 (rd l0 0)) < (t380.length : Int) then (if (rd t380 (Int.tmod a1 (rd l0 0))) ≥ 0 then (some (decide ((rd t380 (Int.tmod a1 (rd l0 0))) ≤ a1))) else (some false)) else (none)) else (none)))) else (none)) else (some false))) else (some false))
def impl_Generates.T3 : Bool × List (List Nat × List Nat) := (true, [([], []), ([], []), ([1], [1]), ([2], [2]), ([0, 3], [0, 3]), ([], []), ([], []), ([6], [6]), ([7], [7]), ([5, 8], [5, 8]), ([4, 9], [4, 9]), ([10], [10]), ([11, 4, 0, 1, 2, 3, 4, 5, 6, 7, 8, 9, 10, 11], [11])])
def impl_Generates.B3 : List Nat := [0, 0, 2, 6, 15, 0, 0, 64, 192, 480, 1023, 2047, 4095]
theorem impl_Generates.tab3 : rtab .any (opsOf Tryd.f40 3) = impl_Generates.T3 := by kernel_rfl
theorem impl_Generates.bits3 : waitsOk impl_Generates.T3.2 impl_Generates.B3 = true := by kernel_rfl
set_option maxHeartbeats 8000000 in
set_option maxRecDepth 100000 in
theorem impl_Generates.calls (k : Nat) (A0 : Option Addr) (c0 : Nat) (l0 : List Int) (a1 : Int) (r : Bool) (w : World) (hr0 : Kd.C (Kd.int .i64) w A0 l0.length l0) (hc0 : l0.length ≤ c0) (h : impl_Generates.f k l0 a1 = some r) :
  Calls Tryd.prog 40 #[.slice A0 l0.length c0, .int .i64 a1] w fun e w' => e = .returned (.bool r) ∧ Below w.heap.size w w' := by
 have HR0 := Aside0.mk hr0; have HC0 := Aside0.mk hc0; clear hr0 hc0; have HB := Aside0.mk (Below.refl w.heap.size w); have H : ((impl_usable.f k l0).bind fun t377 => (if t377 = true then ((impl_within.f a1 0 1000000).bind fun t378 => (if t378 = true then (if 0 < (l0.length : Int) then ((impl_leasts.f k l0 (rd l0 0)).bind fun t380 => (if (rd l0 0) = 0 then (none) else (if 0 ≤ (Int.tmod a1 (rd l0 0)) then (if (Int.tmod a1 (rd l0 0)) < (t380.length : Int) then (if (rd t380 (Int.tmod a1 (rd l0 0))) ≥ 0 then (some (decide ((rd t380 (Int.tmod a1 (rd l0 0))) ≤ a1))) else (some false)) else (none)) else (none)))) else (none)) else (some false))) else (some false))) = some r := h; clear h; obtain ⟨t377, A3, H⟩ := zb H
 by_cases c4 : t377 = true
 ·subst c4; rw [zT] at H; obtain ⟨t378, A5, H⟩ := zb H; have HU6 := Aside0.mk H; clear H; go_enter Tryd.func40, Tryd.ntmps40; go_upto_if 13 with (first | ((with_reducible refine gate_callee (f := 64) rfl ?_); refine goesL_ (some 7) rfl rfl Tryd.func64 (by kernel_rfl) rfl #[.slice A0 l0.length c0] rfl (by (try simp only [za, zc, zn]); first | done | rfl) ?_; (with_reducible refine (impl_usable.calls k _ _ l0 true _ ?side1 ?side2 A3.out).mono ?_); (case side1 => repeat (first | exact HR0.out | (with_reducible refine Kd.C_alloc ?_ _) | (with_reducible refine Kd.C_drewN ?_ _) | (with_reducible refine Kd.C_drew ?_))); (case side2 => exact HC0.out); rintro e w7 ⟨rfl, hb⟩; refine ⟨_, rfl, ?_⟩; replace HB := Aside0.mk (below_step (zB HB.out) hb); (try clear hb); (try clear hb2); (try clear hk); (try clear hi)) | (go_at_call 36; (with_reducible refine (impl_within.calls a1 0 1000000 t378 _ A5.out).mono ?_); rintro e w8 ⟨rfl, hb⟩; replace HB := Aside0.mk (below_step (zB HB.out) hb); (try clear hb); (try clear hb2); (try clear hk); (try clear hi)))
  (try simp only [Act.put, List.setIfInBounds_toArray, List.set_cons_zero, List.set_cons_succ]); have H := HU6.out; clear HU6
  by_cases c9 : t378 = true
  ·subst c9; rw [zT] at H; obtain ⟨c10, H⟩ := zi H; have c10b0 : decide (0 < (l0.length : Int)) = true := decide_eq_true c10; have c10b1 : decide (0 < l0.length) = true := decide_eq_true (by omega); clear c10; (first | rw [c10b0] | rw [c10b1] | (simp only [i64_w, i32_w]; rw [c10b0]) | (rw [c10b2]; simp only [Bool.not_false, Bool.not_true]) | skip); obtain ⟨t380, A11, H⟩ := zb H
   by_cases c12 : (rd l0 0) = 0
   ·rw [if_pos c12] at H; exact absurd H (by simp)
   ·rw [if_neg c12] at H; have c12b0 : ((rd l0 0) == 0) = false := beq_eq_false_iff_ne.mpr c12; have c12b1 : ((rd l0 0) != 0) = true := bne_iff_ne.mpr c12; obtain ⟨ji13, hji13⟩ : ∃ j_ : Int, (Int.tmod a1 (rd l0 0)) = j_ := ⟨_, rfl⟩; replace H : (if 0 ≤ (ji13) then (if (ji13) < (t380.length : Int) then (if (rd t380 (ji13)) ≥ 0 then (some (decide ((rd t380 (ji13)) ≤ a1))) else (some false)) else (none)) else (none)) = some r := by first | (rw [hji13] at H; exact H) | (simp only [hji13] at H ⊢; exact H)
    (try rw [hji13] at A11); obtain ⟨c14, H⟩ := zi H; have c14b0 : decide (0 ≤ (ji13)) = true := decide_eq_true c14; clear c14; obtain ⟨c15, H⟩ := zi H; have c15b0 : decide ((ji13) < (t380.length : Int)) = true := decide_eq_true c15; clear c15
    by_cases c16 : (rd t380 (ji13)) ≥ 0
    ·rw [if_pos c16] at H; have c16b0 : decide (0 ≤ (rd t380 (ji13))) = true := decide_eq_true c16; clear c16; obtain rfl := Option.some.inj H
     try go_wp2
     replace HB := Aside0.mk (below_drew1 HB.out); have p379 : 0 ≤ (0 : Int) := (by omega); have q379 : 0 < (l0.length : Int) := of_decide_eq_true (by assumption); obtain ⟨ad379, e379, hx379_0⟩ := Kd.at_int HR0.out 0 p379 q379; have hw379_0 := hx379_0; (try rw [show ((0 : Int)).toNat = 0 from rfl] at hw379_0); (try rw [show 0 * 1 = 0 from rfl] at hw379_0); (try rw [Addr.add_zero'] at hw379_0)
     cases e379; have qi379 : (0 < l0.length) = True := eq_true (by omega); (try rw [show ((0 : Int)).toNat = 0 from rfl] at hx379_0); (try rw [Addr.add_zero'] at hx379_0); (try replace hx379_0 := (HB.out.cell (World.block_lt_of_cell? w _ hx379_0)).trans hx379_0); replace p379 := eq_true p379; replace q379 := eq_true q379; have p383 : 0 ≤ (0 : Int) := (by omega); have q383 : 0 < (l0.length : Int) := of_decide_eq_true (by assumption); obtain ⟨ad383, e383, hx383_0⟩ := Kd.at_int HR0.out 0 p383 q383; have hw383_0 := hx383_0; (try rw [show ((0 : Int)).toNat = 0 from rfl] at hw383_0); (try rw [show 0 * 1 = 0 from rfl] at hw383_0); (try rw [Addr.add_zero'] at hw383_0); obtain rfl : ad379 = ad383 := (by injection e383); have qi383 : (0 < l0.length) = True := eq_true (by omega); (try rw [show ((0 : Int)).toNat = 0 from rfl] at hx383_0); (try rw [Addr.add_zero'] at hx383_0); (try replace hx383_0 := (HB.out.cell (World.block_lt_of_cell? w _ hx383_0)).trans hx383_0); replace p383 := eq_true p383; replace q383 := eq_true q383; refine start_ (n := 13) (S := fun w' => w'.cell? ad379 = some (.int .i64 (rd l0 0)) ∧ w'.cell? ad379 = some (.int .i64 (rd l0 0))) (ds := []) bA4 (by kernel_rfl) rfl rfl ⟨((HB.out.cell (World.block_lt_of_cell? w _ hw379_0)).trans hw379_0), ((HB.out.cell (World.block_lt_of_cell? w _ hw383_0)).trans hw383_0)⟩ (fun hHeld => ?_); refine with_tabW impl_Generates.tab3 impl_Generates.bits3 (fun HT_ HW_ => ?_); generalize w8.drew = w17 at HB hx379_0 hx383_0 hHeld ⊢; refine zP 0 (some 14) ?_ bA11 rfl rfl HT_ ?_ ?_ ?_ ?_; rotate_left
     ·intro w'; go_simp; (with_reducible rfl)
     rotate_left
     ·simp only [Act.put, qA, qB, qC, i64_w]; rfl
     refine zP 1 (some 15) ?_ bA18 rfl rfl HT_ ?_ ?_ ?_ ?_; rotate_left
     ·intro w'; go_simp; (with_reducible rfl)
     rotate_left
     ·simp only [Act.put, qA, qB, qC, i64_w]; rfl
     refine zP 2 (some 16) ?_ bA24 rfl rfl HT_ ?_ ?_ ?_ ?_; rotate_left
     ·intro w'; go_simp; (with_reducible rfl)
     rotate_left
     ·simp only [Act.put, qA, qB, qC, i64_w]; rfl
     refine zP 5 (some 19) ?_ bA27 rfl rfl HT_ ?_ ?_ ?_ ?_; rotate_left
     ·intro w'; go_simp; (with_reducible rfl)
     rotate_left
     ·simp only [Act.put, qA, qB, qC, i64_w]; rfl
     refine zP 6 (some 20) ?_ bA28 rfl rfl HT_ ?_ ?_ ?_ ?_; rotate_left
     ·intro w'; go_simp; (with_reducible rfl)
     rotate_left
     ·simp only [Act.put, qA, qB, qC, i64_w]; rfl
     refine zP 7 (some 21) ?_ bA29 rfl rfl HT_ ?_ ?_ ?_ ?_; rotate_left
     ·intro w'; go_simp; (with_reducible rfl)
     rotate_left
     ·simp only [Act.put, qA, qB, qC, i64_w]; rfl
     refine zZ 3 (some 17) ?_ bA36 rfl rfl HT_ HW_ ?_ hHeld ?_ ?_ ?_; rotate_left
     ·rintro w' ⟨s0, s1⟩; go_simp; (with_reducible rfl)
     rotate_left
     ·simp only [Act.put, qA, qB, qC, i64_w]; rfl
     refine zZ 8 (some 22) ?_ bA37 rfl rfl HT_ HW_ ?_ hHeld ?_ ?_ ?_; rotate_left
     ·rintro w' ⟨s0, s1⟩; go_simp; (with_reducible rfl)
     rotate_left
     ·simp only [Act.put, qA, qB, qC, i64_w]; rfl
     refine zP 9 (some 23) ?_ bA38 rfl rfl HT_ ?_ ?_ ?_ ?_; rotate_left
     ·intro w'; go_simp; (with_reducible rfl)
     rotate_left
     ·simp only [Act.put, qA, qB, qC, i64_w]; rfl
     refine one_ (i := 4) (N := some 18) bA73 rfl rfl (one_of HT_.out (by kernel_rfl)) (by decide) (fun K hK => ?_); refine goes_ Tryd.func41 (by kernel_rfl) rfl #[.slice (some ad379) l0.length c0, .int .i64 (rd l0 0)] (by rfl) rfl rfl (by (try simp only [za, zc, zn]); first | done | rfl) ?_; (with_reducible refine (impl_leasts.calls k _ _ l0 (rd l0 0) t380 _ ?side1 ?side2 A11.out).mono ?_); (case side1 => exact zC (Kd.C_below HR0.out HB.out)); (case side2 => exact HC0.out); rintro e w18 ⟨v381, rfl, ho0, hb⟩

     refine ⟨_, rfl, ?_⟩; have HO382 := Aside0.mk (Kd.R_lower ho0 (zS HB.out)); replace HB := Aside0.mk (below_step (zB HB.out) hb); (try clear hb); (try clear hb2); (try clear hk); (try clear hi); (try clear ho0); obtain ⟨Ao19, co19, eo19⟩ := Kd.R_slice HO382.out; (first | subst eo19 | (injection eo19 with f1_ f2_ f3_; have f4_ := f1_.symm; have f5_ := f3_.symm; clear f1_ f2_ f3_; subst f4_; subst f5_)); have p384 : 0 ≤ ((ji13) : Int) := of_decide_eq_true (by assumption); have q384 : (ji13) < (t380.length : Int) := of_decide_eq_true (by assumption); obtain ⟨ad384, e384, hx384_0⟩ := Kd.at_int (Kd.R_reads' HO382.out).2.2 (ji13) p384 q384
     cases e384; replace p384 := eq_true p384; replace q384 := eq_true q384; refine hK.out _ _ ⟨((HB.out.cell (World.block_lt_of_cell? w _ hw379_0)).trans hw379_0), ((HB.out.cell (World.block_lt_of_cell? w _ hw383_0)).trans hw383_0)⟩ (fun hHeld => ?_); clear hK K; refine norm_ (a' := ?_) ?_ ?_; rotate_left
     ·show Act.put _ (some 18) _ = _; simp only [Act.put, qA, qB, qC, i64_w]; rfl
     refine zP 10 (some 24) ?_ bA78 rfl rfl HT_ ?_ ?_ ?_ ?_; rotate_left
     ·intro w'; go_simp; (with_reducible rfl)
     rotate_left
     ·simp only [Act.put, qA, qB, qC, i64_w]; rfl
     refine one_ (i := 11) (N := some 25) bA83 rfl rfl (one_of HT_.out (by kernel_rfl)) (by decide) (fun K hK => ?_); rw [if_pos (by rfl)]; go_simp; refine hK.out _ _ hHeld (fun hHeld => ?_); clear hK K; refine zP 12 (some 5) ?_ bA154 rfl rfl HT_ ?_ ?_ ?_ ?_; rotate_left
     ·intro w'; go_simp; (with_reducible rfl)
     rotate_left
     ·simp only [Act.put, qA, qB, qC, i64_w]; rfl
     refine done_ (done_of HT_.out (by kernel_rfl)) ?_
     try go_wp2
     go_ret
     exact ⟨by first | rfl | (simp [errW_none, errW_some] <;> rfl) | (simp only [← hji13]; first | rfl | (simp [errW_none, errW_some] <;> rfl)) | (simp [*, errW_none, errW_some] <;> rfl), zB HB.out⟩
    ·rw [if_neg c16] at H; have c16b0 : decide (0 ≤ (rd t380 (ji13))) = false := decide_eq_false c16; clear c16; obtain rfl := Option.some.inj H
     try go_wp2
     replace HB := Aside0.mk (below_drew1 HB.out); have p379 : 0 ≤ (0 : Int) := (by omega); have q379 : 0 < (l0.length : Int) := of_decide_eq_true (by assumption); obtain ⟨ad379, e379, hx379_0⟩ := Kd.at_int HR0.out 0 p379 q379; have hw379_0 := hx379_0; (try rw [show ((0 : Int)).toNat = 0 from rfl] at hw379_0); (try rw [show 0 * 1 = 0 from rfl] at hw379_0); (try rw [Addr.add_zero'] at hw379_0)
     cases e379; have qi379 : (0 < l0.length) = True := eq_true (by omega); (try rw [show ((0 : Int)).toNat = 0 from rfl] at hx379_0); (try rw [Addr.add_zero'] at hx379_0); (try replace hx379_0 := (HB.out.cell (World.block_lt_of_cell? w _ hx379_0)).trans hx379_0); replace p379 := eq_true p379; replace q379 := eq_true q379; have p383 : 0 ≤ (0 : Int) := (by omega); have q383 : 0 < (l0.length : Int) := of_decide_eq_true (by assumption); obtain ⟨ad383, e383, hx383_0⟩ := Kd.at_int HR0.out 0 p383 q383; have hw383_0 := hx383_0; (try rw [show ((0 : Int)).toNat = 0 from rfl] at hw383_0); (try rw [show 0 * 1 = 0 from rfl] at hw383_0); (try rw [Addr.add_zero'] at hw383_0); obtain rfl : ad379 = ad383 := (by injection e383); have qi383 : (0 < l0.length) = True := eq_true (by omega); (try rw [show ((0 : Int)).toNat = 0 from rfl] at hx383_0); (try rw [Addr.add_zero'] at hx383_0); (try replace hx383_0 := (HB.out.cell (World.block_lt_of_cell? w _ hx383_0)).trans hx383_0); replace p383 := eq_true p383; replace q383 := eq_true q383; refine start_ (n := 13) (S := fun w' => w'.cell? ad379 = some (.int .i64 (rd l0 0)) ∧ w'.cell? ad379 = some (.int .i64 (rd l0 0))) (ds := []) bA4 (by kernel_rfl) rfl rfl ⟨((HB.out.cell (World.block_lt_of_cell? w _ hw379_0)).trans hw379_0), ((HB.out.cell (World.block_lt_of_cell? w _ hw383_0)).trans hw383_0)⟩ (fun hHeld => ?_); refine with_tabW impl_Generates.tab3 impl_Generates.bits3 (fun HT_ HW_ => ?_); generalize w8.drew = w20 at HB hx379_0 hx383_0 hHeld ⊢; refine zP 0 (some 14) ?_ bA11 rfl rfl HT_ ?_ ?_ ?_ ?_; rotate_left
     ·intro w'; go_simp; (with_reducible rfl)
     rotate_left
     ·simp only [Act.put, qA, qB, qC, i64_w]; rfl
     refine zP 1 (some 15) ?_ bA18 rfl rfl HT_ ?_ ?_ ?_ ?_; rotate_left
     ·intro w'; go_simp; (with_reducible rfl)
     rotate_left
     ·simp only [Act.put, qA, qB, qC, i64_w]; rfl
     refine zP 2 (some 16) ?_ bA24 rfl rfl HT_ ?_ ?_ ?_ ?_; rotate_left
     ·intro w'; go_simp; (with_reducible rfl)
     rotate_left
     ·simp only [Act.put, qA, qB, qC, i64_w]; rfl
     refine zP 5 (some 19) ?_ bA27 rfl rfl HT_ ?_ ?_ ?_ ?_; rotate_left
     ·intro w'; go_simp; (with_reducible rfl)
     rotate_left
     ·simp only [Act.put, qA, qB, qC, i64_w]; rfl
     refine zP 6 (some 20) ?_ bA28 rfl rfl HT_ ?_ ?_ ?_ ?_; rotate_left
     ·intro w'; go_simp; (with_reducible rfl)
     rotate_left
     ·simp only [Act.put, qA, qB, qC, i64_w]; rfl
     refine zP 7 (some 21) ?_ bA29 rfl rfl HT_ ?_ ?_ ?_ ?_; rotate_left
     ·intro w'; go_simp; (with_reducible rfl)
     rotate_left
     ·simp only [Act.put, qA, qB, qC, i64_w]; rfl
     refine zZ 3 (some 17) ?_ bA36 rfl rfl HT_ HW_ ?_ hHeld ?_ ?_ ?_; rotate_left
     ·rintro w' ⟨s0, s1⟩; go_simp; (with_reducible rfl)
     rotate_left
     ·simp only [Act.put, qA, qB, qC, i64_w]; rfl
     refine zZ 8 (some 22) ?_ bA37 rfl rfl HT_ HW_ ?_ hHeld ?_ ?_ ?_; rotate_left
     ·rintro w' ⟨s0, s1⟩; go_simp; (with_reducible rfl)
     rotate_left
     ·simp only [Act.put, qA, qB, qC, i64_w]; rfl
     refine zP 9 (some 23) ?_ bA38 rfl rfl HT_ ?_ ?_ ?_ ?_; rotate_left
     ·intro w'; go_simp; (with_reducible rfl)
     rotate_left
     ·simp only [Act.put, qA, qB, qC, i64_w]; rfl
     refine one_ (i := 4) (N := some 18) bA73 rfl rfl (one_of HT_.out (by kernel_rfl)) (by decide) (fun K hK => ?_); refine goes_ Tryd.func41 (by kernel_rfl) rfl #[.slice (some ad379) l0.length c0, .int .i64 (rd l0 0)] (by rfl) rfl rfl (by (try simp only [za, zc, zn]); first | done | rfl) ?_; (with_reducible refine (impl_leasts.calls k _ _ l0 (rd l0 0) t380 _ ?side1 ?side2 A11.out).mono ?_); (case side1 => exact zC (Kd.C_below HR0.out HB.out)); (case side2 => exact HC0.out); rintro e w21 ⟨v381, rfl, ho0, hb⟩

     refine ⟨_, rfl, ?_⟩; have HO382 := Aside0.mk (Kd.R_lower ho0 (zS HB.out)); replace HB := Aside0.mk (below_step (zB HB.out) hb); (try clear hb); (try clear hb2); (try clear hk); (try clear hi); (try clear ho0); obtain ⟨Ao22, co22, eo22⟩ := Kd.R_slice HO382.out; (first | subst eo22 | (injection eo22 with f1_ f2_ f3_; have f4_ := f1_.symm; have f5_ := f3_.symm; clear f1_ f2_ f3_; subst f4_; subst f5_)); have p384 : 0 ≤ ((ji13) : Int) := of_decide_eq_true (by assumption); have q384 : (ji13) < (t380.length : Int) := of_decide_eq_true (by assumption); obtain ⟨ad384, e384, hx384_0⟩ := Kd.at_int (Kd.R_reads' HO382.out).2.2 (ji13) p384 q384
     cases e384; replace p384 := eq_true p384; replace q384 := eq_true q384; refine hK.out _ _ ⟨((HB.out.cell (World.block_lt_of_cell? w _ hw379_0)).trans hw379_0), ((HB.out.cell (World.block_lt_of_cell? w _ hw383_0)).trans hw383_0)⟩ (fun hHeld => ?_); clear hK K; refine norm_ (a' := ?_) ?_ ?_; rotate_left
     ·show Act.put _ (some 18) _ = _; simp only [Act.put, qA, qB, qC, i64_w]; rfl
     refine zP 10 (some 24) ?_ bA78 rfl rfl HT_ ?_ ?_ ?_ ?_; rotate_left
     ·intro w'; go_simp; (with_reducible rfl)
     rotate_left
     ·simp only [Act.put, qA, qB, qC, i64_w]; rfl
     refine one_ (i := 11) (N := some 25) bA83 rfl rfl (one_of HT_.out (by kernel_rfl)) (by decide) (fun K hK => ?_); rw [if_pos (by rfl)]; go_simp; refine hK.out _ _ hHeld (fun hHeld => ?_); clear hK K; refine zP 12 (some 5) ?_ bA154 rfl rfl HT_ ?_ ?_ ?_ ?_; rotate_left
     ·intro w'; go_simp; (with_reducible rfl)
     rotate_left
     ·simp only [Act.put, qA, qB, qC, i64_w]; rfl
     refine done_ (done_of HT_.out (by kernel_rfl)) ?_
     try go_wp2
     go_ret
     exact ⟨by first | rfl | (simp [errW_none, errW_some] <;> rfl) | (simp only [← hji13]; first | rfl | (simp [errW_none, errW_some] <;> rfl)) | (simp [*, errW_none, errW_some] <;> rfl), zB HB.out⟩
  ·replace c9 := Bool.eq_false_iff.mpr c9; subst c9; rw [zF] at H; obtain rfl := Option.some.inj H; go_wp2; go_ret
   exact ⟨by first | rfl | (simp [*, errW_none, errW_some] <;> rfl), zB HB.out⟩
 ·replace c4 := Bool.eq_false_iff.mpr c4; subst c4; rw [zF] at H; obtain rfl := Option.some.inj H; go_enter Tryd.func40, Tryd.ntmps40; go_wp2_with (first | ((with_reducible refine gate_callee (f := 64) rfl ?_); refine goesL_ (some 7) rfl rfl Tryd.func64 (by kernel_rfl) rfl #[.slice A0 l0.length c0] rfl (by (try simp only [za, zc, zn]); first | done | rfl) ?_; (with_reducible refine (impl_usable.calls k _ _ l0 false _ ?side1 ?side2 A3.out).mono ?_); (case side1 => repeat (first | exact HR0.out | (with_reducible refine Kd.C_alloc ?_ _) | (with_reducible refine Kd.C_drewN ?_ _) | (with_reducible refine Kd.C_drew ?_))); (case side2 => exact HC0.out); rintro e w23 ⟨rfl, hb⟩; refine ⟨_, rfl, ?_⟩; replace HB := Aside0.mk (below_step (zB HB.out) hb); (try clear hb); (try clear hb2); (try clear hk); (try clear hi))); go_ret
  exact ⟨by first | rfl | (simp [*, errW_none, errW_some] <;> rfl), zB HB.out⟩

/-! ### impl_IsSemigroup: function 17 -/
mutual
def impl_IsSemigroup.j0 : Nat → List Int → Bool → Option (Bool)
 | 0, _, _ => none
 | k + 1, x3, x27 => if x27 = true then (some false) else (impl_IsSemigroup.l0 k x3 1)
def impl_IsSemigroup.l0 : Nat → List Int → Int → Option (Bool)
 | 0, _, _ => none
 | k + 1, x3, x4 => if x4 < (x3.length : Int) then (if 0 ≤ x4 then (if x4 ≤ (x3.length : Int) then ((impl_Generates.f k (x3.take (x4 : Int).toNat) (rd x3 x4)).bind fun t392 => (if t392 = true then (some false) else (impl_IsSemigroup.l0 k x3 (wrap64 (x4 + 1))))) else (none)) else (none)) else (if 0 < (x3.length : Int) then ((impl_leasts.f k x3 (rd x3 0)).bind fun t394 => (impl_IsSemigroup.l1 k x3 t394 (t394.length : Int) 0)) else (none))
def impl_IsSemigroup.l1 : Nat → List Int → List Int → Int → Int → Option (Bool)
 | 0, _, _, _, _ => none
 | k + 1, x3, x46, x47, x48 => if x48 < x47 then (if 0 ≤ x48 then (if x48 < (x46.length : Int) then (if 0 < (x3.length : Int) then (if (wrap64 ((rd x46 x48) - (rd x3 0))) ≥ 200 then (some false) else (impl_IsSemigroup.l1 k x3 x46 x47 (wrap64 (x48 + 1)))) else (none)) else (none)) else (none)) else (some true)
end
def impl_IsSemigroup.f (k : Nat) (l0_0 : List Int) : Option (Bool) := (impl_within.f (l0_0.length : Int) 1 12).bind fun t386 => (if t386 = true then ((impl_allWithin.f k l0_0 1 60).bind fun t387 => (if t387 = true then ((impl_IsAscending.f k l0_0).bind fun t388 => (if t388 = true then ((impl_GcdOfList.f k l0_0).bind fun t389 => (impl_IsSemigroup.j0 k l0_0 (t389 != 1))) else (impl_IsSemigroup.j0 k l0_0 true))) else (impl_IsSemigroup.j0 k l0_0 true))) else (impl_IsSemigroup.j0 k l0_0 true))
def impl_IsSemigroup.T7 : Bool × List (List Nat × List Nat) := (true, [([], []), ([], []), ([0, 1], [0, 1]), ([], []), ([], []), ([3, 4], [3, 4]), ([5], [5]), ([2, 6], [2, 6])])
def impl_IsSemigroup.B7 : List Nat := [0, 0, 3, 0, 0, 24, 56, 127]
theorem impl_IsSemigroup.tab7 : rtab .any (opsOf Tryd.f17 7) = impl_IsSemigroup.T7 := by kernel_rfl
theorem impl_IsSemigroup.bits7 : waitsOk impl_IsSemigroup.T7.2 impl_IsSemigroup.B7 = true := by kernel_rfl
set_option maxHeartbeats 8000000 in
set_option maxRecDepth 100000 in
theorem impl_IsSemigroup.calls (k : Nat) (A0_0 : Option Addr) (c0_0 : Nat) (l0_0 : List Int) (r : Bool) (w : World) (hr0_0 : Kd.C (Kd.int .i64) w A0_0 l0_0.length l0_0) (hc0_0 : l0_0.length ≤ c0_0) (h : impl_IsSemigroup.f k l0_0 = some r) :
  Calls Tryd.prog 17 #[.agg #[.slice A0_0 l0_0.length c0_0]] w fun e w' => e = .returned (.bool r) ∧ Below w.heap.size w w' := by
 have hu26 := Tryd.underlying26; have HR0_0 := Aside0.mk hr0_0; have HC0_0 := Aside0.mk hc0_0; clear hr0_0 hc0_0; have HB := Aside0.mk (Below.refl w.heap.size w); have H : ((impl_within.f (l0_0.length : Int) 1 12).bind fun t386 => (if t386 = true then ((impl_allWithin.f k l0_0 1 60).bind fun t387 => (if t387 = true then ((impl_IsAscending.f k l0_0).bind fun t388 => (if t388 = true then ((impl_GcdOfList.f k l0_0).bind fun t389 => (impl_IsSemigroup.j0 k l0_0 (t389 != 1))) else (impl_IsSemigroup.j0 k l0_0 true))) else (impl_IsSemigroup.j0 k l0_0 true))) else (impl_IsSemigroup.j0 k l0_0 true))) = some r := h; clear h; have HC2 := Aside0.mk H; clear H; go_enter Tryd.func17, Tryd.ntmps17; go_upto_region 2 with (first | ((with_reducible refine gate_dst (N := 1) rfl ?_); refine box_event ?hg (N := 1) ?hd (cs := #[.slice A0_0 l0_0.length c0_0]) (t := 26) ?hr ?_; (case hd => rfl); (case hg => rfl); (case hr => first | (go_simp; done) | (go_simp; rfl)); intro gb385 hg w3 hbox hb; have BK385 := Aside0.mk (hbox); have GW385 := Aside0.mk ((by rw [hg]; exact (zS HB.out) : w.heap.size ≤ gb385)); have GE385 := Aside0.mk ((by rw [hg]; exact (zS HB.out) : w.heap.size ≤ gb385)); replace HB := Aside0.mk (below_step (zB HB.out) hb); have := Ge.mk GE385.out; clear hb hbox hg; have hcz4_0 : w3.cell? ⟨gb385, 0, none⟩ = some (.slice A0_0 l0_0.length c0_0) := (blk_cell BK385.out 0).trans rfl; have hfz4_0 := blk_frozen BK385.out 0))
 (try simp only [Act.put, List.setIfInBounds_toArray, List.set_cons_zero, List.set_cons_succ]); go_cut [27] (fun v27 wc => ∃ (kq : Nat) (x27_1 : Bool), v27 = .bool x27_1 ∧ Aside0 (impl_IsSemigroup.j0 kq l0_0 x27_1 = some r) ∧ Aside0 (kq ≤ k) ∧ Aside0 (wc.heap[gb385]? = some (.cells #[(.slice A0_0 l0_0.length c0_0)] 26 (0, 0))) ∧ Aside0 (Below w.heap.size w wc))
 case first =>
  have H := HC2.out; clear HC2; obtain ⟨t386, A5, H⟩ := zb H
  by_cases c6 : t386 = true
  ·subst c6; rw [zT] at H; obtain ⟨t387, A7, H⟩ := zb H
   by_cases c8 : t387 = true
   ·subst c8; rw [zT] at H; obtain ⟨t388, A9, H⟩ := zb H
    by_cases c10 : t388 = true
    ·subst c10; rw [zT] at H; obtain ⟨t389, A11, H⟩ := zb H; have H' := Aside0.mk H; clear H; go_wp2_with (first | ((with_reducible refine gate_callee (f := 36) rfl ?_); refine goesL_ (some 11) rfl rfl Tryd.func36 (by kernel_rfl) rfl #[.int .i64 (l0_0.length : Int), .int .i64 1, .int .i64 12] rfl (by (try simp only [za, zc, zn]); first | done | rfl) ?_; (with_reducible refine (impl_within.calls (l0_0.length : Int) 1 12 true _ A5.out).mono ?_); rintro e w12 ⟨rfl, hb⟩; refine ⟨_, rfl, ?_⟩; replace BK385 := Aside0.mk (blk_below (zk BK385.out) hb); replace HB := Aside0.mk (below_step (zB HB.out) hb); (try clear hb); (try clear hb2); (try clear hk); (try clear hi)) | (go_at_call 37; (with_reducible refine (impl_allWithin.calls k _ _ l0_0 1 60 true _ ?side1 ?side2 A7.out).mono ?_); (case side1 => exact zC (Kd.C_below HR0_0.out HB.out)); (case side2 => exact HC0_0.out); rintro e w13 ⟨rfl, hb⟩; replace BK385 := Aside0.mk (blk_below (zk BK385.out) hb); replace HB := Aside0.mk (below_step (zB HB.out) hb); (try clear hb); (try clear hb2); (try clear hk); (try clear hi)) | (go_at_call 38; (with_reducible refine (impl_IsAscending.calls k _ _ l0_0 true _ ?side1 ?side2 A9.out).mono ?_); (case side1 => exact zC (Kd.C_below HR0_0.out HB.out)); (case side2 => exact HC0_0.out); rintro e w' ⟨rfl, ⟨nd, rfl⟩⟩) | (go_at_call 39; (with_reducible refine (impl_GcdOfList.calls k _ _ l0_0 t389 _ ?side1 ?side2 A11.out).mono ?_); (case side1 => exact Kd.C_below HR0_0.out (zB HB.out)); (case side2 => exact HC0_0.out); rintro e w14 ⟨rfl, hb⟩; replace BK385 := Aside0.mk (blk_below (zk BK385.out) hb); replace HB := Aside0.mk (below_step (zB HB.out) hb); (try clear hb); (try clear hb2); (try clear hk); (try clear hi)))
     go_meet
     case rel => exact ⟨_, ((t389 != 1)), (by first | rfl | (simp; done) | (simp [*]; done)), H', ⟨by first | omega | exact Nat.le_refl _⟩, ⟨zk BK385.out⟩, ⟨zB HB.out⟩⟩
    ·replace c10 := Bool.eq_false_iff.mpr c10; subst c10; rw [zF] at H; have H' := Aside0.mk H; clear H; go_wp2_with (first | ((with_reducible refine gate_callee (f := 36) rfl ?_); refine goesL_ (some 11) rfl rfl Tryd.func36 (by kernel_rfl) rfl #[.int .i64 (l0_0.length : Int), .int .i64 1, .int .i64 12] rfl (by (try simp only [za, zc, zn]); first | done | rfl) ?_; (with_reducible refine (impl_within.calls (l0_0.length : Int) 1 12 true _ A5.out).mono ?_); rintro e w15 ⟨rfl, hb⟩; refine ⟨_, rfl, ?_⟩; replace BK385 := Aside0.mk (blk_below (zk BK385.out) hb); replace HB := Aside0.mk (below_step (zB HB.out) hb); (try clear hb); (try clear hb2); (try clear hk); (try clear hi)) | (go_at_call 37; (with_reducible refine (impl_allWithin.calls k _ _ l0_0 1 60 true _ ?side1 ?side2 A7.out).mono ?_); (case side1 => exact zC (Kd.C_below HR0_0.out HB.out)); (case side2 => exact HC0_0.out); rintro e w16 ⟨rfl, hb⟩; replace BK385 := Aside0.mk (blk_below (zk BK385.out) hb); replace HB := Aside0.mk (below_step (zB HB.out) hb); (try clear hb); (try clear hb2); (try clear hk); (try clear hi)) | (go_at_call 38; (with_reducible refine (impl_IsAscending.calls k _ _ l0_0 false _ ?side1 ?side2 A9.out).mono ?_); (case side1 => exact zC (Kd.C_below HR0_0.out HB.out)); (case side2 => exact HC0_0.out); rintro e w' ⟨rfl, ⟨nd, rfl⟩⟩))
     go_meet
     case rel => exact ⟨_, (true), (by first | rfl | (simp; done) | (simp [*]; done)), H', ⟨by first | omega | exact Nat.le_refl _⟩, ⟨zk BK385.out⟩, ⟨zB HB.out⟩⟩
   ·replace c8 := Bool.eq_false_iff.mpr c8; subst c8; rw [zF] at H; have H' := Aside0.mk H; clear H; go_wp2_with (first | ((with_reducible refine gate_callee (f := 36) rfl ?_); refine goesL_ (some 11) rfl rfl Tryd.func36 (by kernel_rfl) rfl #[.int .i64 (l0_0.length : Int), .int .i64 1, .int .i64 12] rfl (by (try simp only [za, zc, zn]); first | done | rfl) ?_; (with_reducible refine (impl_within.calls (l0_0.length : Int) 1 12 true _ A5.out).mono ?_); rintro e w17 ⟨rfl, hb⟩; refine ⟨_, rfl, ?_⟩; replace BK385 := Aside0.mk (blk_below (zk BK385.out) hb); replace HB := Aside0.mk (below_step (zB HB.out) hb); (try clear hb); (try clear hb2); (try clear hk); (try clear hi)) | (go_at_call 37; (with_reducible refine (impl_allWithin.calls k _ _ l0_0 1 60 false _ ?side1 ?side2 A7.out).mono ?_); (case side1 => exact zC (Kd.C_below HR0_0.out HB.out)); (case side2 => exact HC0_0.out); rintro e w18 ⟨rfl, hb⟩; replace BK385 := Aside0.mk (blk_below (zk BK385.out) hb); replace HB := Aside0.mk (below_step (zB HB.out) hb); (try clear hb); (try clear hb2); (try clear hk); (try clear hi)))
    go_meet
    case rel => exact ⟨_, (true), (by first | rfl | (simp; done) | (simp [*]; done)), H', ⟨by first | omega | exact Nat.le_refl _⟩, ⟨zk BK385.out⟩, ⟨zB HB.out⟩⟩
  ·replace c6 := Bool.eq_false_iff.mpr c6; subst c6; rw [zF] at H; have H' := Aside0.mk H; clear H; go_wp2_with (first | ((with_reducible refine gate_callee (f := 36) rfl ?_); refine goesL_ (some 11) rfl rfl Tryd.func36 (by kernel_rfl) rfl #[.int .i64 (l0_0.length : Int), .int .i64 1, .int .i64 12] rfl (by (try simp only [za, zc, zn]); first | done | rfl) ?_; (with_reducible refine (impl_within.calls (l0_0.length : Int) 1 12 false _ A5.out).mono ?_); rintro e w19 ⟨rfl, hb⟩; refine ⟨_, rfl, ?_⟩; replace BK385 := Aside0.mk (blk_below (zk BK385.out) hb); replace HB := Aside0.mk (below_step (zB HB.out) hb); (try clear hb); (try clear hb2); (try clear hk); (try clear hi)))
   go_meet
   case rel => exact ⟨_, (true), (by first | rfl | (simp; done) | (simp [*]; done)), H', ⟨by first | omega | exact Nat.le_refl _⟩, ⟨zk BK385.out⟩, ⟨zB HB.out⟩⟩
 case rest =>
  clear HC2
  try clear hcz4_0 hfz4_0
  obtain ⟨kq, x27_1, rfl, HA, HJ1, BK385, HB⟩ := hcut
  cases kq with
  | zero => exact absurd HA.out (by simp [impl_IsSemigroup.j0])
  | succ kj1 =>
   have H := HA.out; clear HA; simp only [impl_IsSemigroup.j0] at H
   by_cases c20 : x27_1 = true
   ·subst c20; rw [zT] at H; obtain rfl := Option.some.inj H; go_wp2; go_ret
    exact ⟨by first | rfl | (simp [*, errW_none, errW_some] <;> rfl), zB HB.out⟩
   ·replace c20 := Bool.eq_false_iff.mpr c20; subst c20; rw [zF] at H; have H' := Aside0.mk H; clear H; go_wp2; go_loopg [4] kj1 (fun kq v4 w' => ∃ (x4_2 : Int), v4 = .int .i64 x4_2 ∧ Aside0 (impl_IsSemigroup.l0 kq l0_0 x4_2 = some r) ∧ Aside0 (kq ≤ kj1) ∧ Aside0 (w'.heap[gb385]? = some (.cells #[(.slice A0_0 l0_0.length c0_0)] 26 (0, 0))) ∧ Aside0 (Below w.heap.size w w'))
    case atStart => exact ⟨(1), (by first | rfl | (simp; done) | (simp [*]; done)), H', ⟨Nat.le_refl _⟩, ⟨zk BK385.out⟩, ⟨zB HB.out⟩⟩
    case round =>
     clear H'
     try clear c20
     obtain ⟨x4_2, rfl, HA, HK2, BK385, HB⟩ := hrel
     cases gk with
     | zero => exact absurd HA.out (by simp [impl_IsSemigroup.l0])
     | succ k2 =>
      have H := HA.out; clear HA; simp only [impl_IsSemigroup.l0] at H
      by_cases c21 : x4_2 < (l0_0.length : Int)
      ·rw [if_pos c21] at H; have c21b0 : decide (x4_2 < (l0_0.length : Int)) = true := decide_eq_true c21; clear c21; obtain ⟨c22, H⟩ := zi H; have c22b0 := eq_true c22; have c22b1 : decide (0 ≤ x4_2) = true := decide_eq_true c22; clear c22; obtain ⟨c23, H⟩ := zi H; have c23b0 := eq_true c23; have c23b1 : decide (x4_2 ≤ (l0_0.length : Int)) = true := decide_eq_true c23; clear c23; obtain ⟨t392, A24, H⟩ := zb H; have HU25 := Aside0.mk H; clear H
       try go_wp2
       replace BK385 := Aside0.mk (blk_drew BK385.out); replace HB := Aside0.mk (below_drew1 HB.out); obtain ⟨i027, hi027, _, hsz27, _⟩ := info_parts info3; obtain ⟨hcut27, hA27, hC27⟩ := print_take_of (P := Tryd.prog) (Value.int .i64) 0 24 3 .i64 Tryd.underlying24 hi027 hsz27 A0_0 c0_0 l0_0 x4_2 (of_decide_eq_true (by assumption)) (of_decide_eq_true (by assumption)) HC0_0.out; have HR390 := Aside0.mk (Kd.C_of_reads (h1 := fun _ => rfl) (hA27 _ (Kd.reads_of_C HR0_0.out))); have HC390 := Aside0.mk hC27; clear hA27 hC27 hi027 hsz27; have p391 : 0 ≤ (x4_2 : Int) := of_decide_eq_true (by assumption); have q391 : x4_2 < (l0_0.length : Int) := of_decide_eq_true (by assumption); obtain ⟨ad391, e391, hx391_0⟩ := Kd.at_int HR0_0.out x4_2 p391 q391; have hw391_0 := hx391_0
       cases e391; (try replace hx391_0 := (HB.out.cell (World.block_lt_of_cell? w _ hx391_0)).trans hx391_0); replace p391 := eq_true p391; replace q391 := eq_true q391; refine start_ (n := 8) (S := fun w' => w'.cell? (ad391.add (x4_2).toNat) = some (.int .i64 (rd l0_0 x4_2))) (ds := []) bA6 (by kernel_rfl) rfl rfl (((HB.out.cell (World.block_lt_of_cell? w _ hw391_0)).trans hw391_0)) (fun hHeld => ?_); refine with_tabW impl_IsSemigroup.tab7 impl_IsSemigroup.bits7 (fun HT_ HW_ => ?_); generalize wr.drew = w26 at BK385 HB HR390 hx391_0 hHeld ⊢; refine zP 0 (some 34) ?_ bA13 rfl rfl HT_ ?_ ?_ ?_ ?_; rotate_left
       ·intro w'; go_simp; (with_reducible rfl)
       rotate_left
       ·simp only [Act.put, qA, qB, qC, i64_w]; rfl
       refine zp 1 (some 35) ?_ #[true, true, false, false, false, false, false, false] rfl rfl HT_ (by kernel_rfl) (fun _ _ _ h => h) (by rfl) ?_ ?_ ?_ ?_; rotate_left
       ·intro w'; go_simp; (with_reducible rfl)
       rotate_left
       ·simp only [Act.put, qA, qB, qC, i64_w]; rfl
       refine zP 2 (some 36) ?_ bA26 rfl rfl HT_ ?_ ?_ ?_ ?_; rotate_left
       ·intro w'; go_simp; (with_reducible rfl)
       rotate_left
       ·simp only [Act.put, qA, qB, qC, i64_w]; rfl
       refine zP 3 (some 37) ?_ bA35 rfl rfl HT_ ?_ ?_ ?_ ?_; rotate_left
       ·intro w'; go_simp; (with_reducible rfl)
       rotate_left
       ·simp only [Act.put, qA, qB, qC, i64_w]; rfl
       refine zP 4 (some 38) ?_ bA44 rfl rfl HT_ ?_ ?_ ?_ ?_; rotate_left
       ·intro w'; go_simp; (with_reducible rfl)
       rotate_left
       ·simp only [Act.put, qA, qB, qC, i64_w]; rfl
       refine zP 5 (some 39) ?_ bA51 rfl rfl HT_ ?_ ?_ ?_ ?_; rotate_left
       ·intro w'; go_simp; (with_reducible rfl)
       rotate_left
       ·simp only [Act.put, qA, qB, qC, i64_w]; rfl
       refine zZ 6 (some 40) ?_ bA60 rfl rfl HT_ HW_ ?_ hHeld ?_ ?_ ?_; rotate_left
       ·intro w' s0; go_simp; (with_reducible rfl)
       rotate_left
       ·simp only [Act.put, qA, qB, qC, i64_w]; rfl
       refine one_ (i := 7) (N := some 41) bA156 rfl rfl (one_of HT_.out (by kernel_rfl)) (by decide) (fun K hK => ?_); refine goes_ Tryd.func40 (by kernel_rfl) rfl #[.slice (some ad391) (l0_0.take (x4_2 : Int).toNat).length c0_0, .int .i64 (rd l0_0 x4_2)] (by rfl) rfl rfl (by (try simp only [List.map_toArray, List.map_cons, List.map_nil]); first | done | (rw [show (l0_0.take (x4_2 : Int).toNat).length = x4_2.toNat from (by rw [List.length_take]; have h_ : (x4_2 : Int) ≤ (l0_0.length : Int) := of_decide_eq_true (by assumption); omega)] <;> rfl) | rfl | (simp only [List.length_drop, List.length_take]; rfl)) ?_; (with_reducible refine (impl_Generates.calls k2 _ _ (l0_0.take (x4_2 : Int).toNat) (rd l0_0 x4_2) t392 _ ?side1 ?side2 A24.out).mono ?_); (case side1 => exact zC (Kd.C_below HR390.out HB.out)); (case side2 => exact HC390.out); rintro e w28 ⟨rfl, hb⟩; refine ⟨_, rfl, ?_⟩; replace BK385 := Aside0.mk (blk_below (zk BK385.out) hb); replace HB := Aside0.mk (below_step (zB HB.out) hb); (try clear hb); (try clear hb2); (try clear hk); (try clear hi); refine hK.out _ _ (((HB.out.cell (World.block_lt_of_cell? w _ hw391_0)).trans hw391_0)) (fun hHeld => ?_); clear hK K; refine norm_ (a' := ?_) ?_ ?_; rotate_left
       ·show Act.put _ (some 41) _ = _; simp only [Act.put, qA, qB, qC, i64_w]; rfl
       refine done_ (done_of HT_.out (by kernel_rfl)) ?_; go_upto_if 41 with (fail)
       have H := HU25.out; clear HU25
       by_cases c29 : t392 = true
       ·subst c29; rw [zT] at H; obtain rfl := Option.some.inj H; go_wp2; go_ret
        exact ⟨by first | rfl | (simp [*, errW_none, errW_some] <;> rfl), zB HB.out⟩
       ·replace c29 := Bool.eq_false_iff.mpr c29; subst c29; rw [zF] at H; have H' := Aside0.mk H; clear H; go_wp2
        go_roundg k2
        case measure => have := HJ1.out; have := HK2.out; omega
        case rel => exact ⟨(wrap64 (x4_2 + 1)), (by first | rfl | (simp; done) | (simp [*]; done)), H', ⟨by have := HJ1.out; have := HK2.out; omega⟩, ⟨zk BK385.out⟩, ⟨zB HB.out⟩⟩
      ·rw [if_neg c21] at H; have c21b0 : decide (x4_2 < (l0_0.length : Int)) = false := decide_eq_false c21; clear c21
       by_cases c30 : 0 < (l0_0.length : Int)
       ·rw [if_pos c30] at H; have c30b0 : decide (0 < (l0_0.length : Int)) = true := decide_eq_true c30; have c30b1 : decide (0 < l0_0.length) = true := decide_eq_true (by omega); clear c30; obtain ⟨t394, A31, H⟩ := zb H; have H' := Aside0.mk H; clear H; have p393 : 0 ≤ (0 : Int) := (by omega); have q393 : 0 < (l0_0.length : Int) := of_decide_eq_true (by assumption); obtain ⟨ad393, e393, hx393_0⟩ := Kd.at_int HR0_0.out 0 p393 q393
        cases e393; have qi393 : (0 < l0_0.length) = True := eq_true (by omega); (try rw [show ((0 : Int)).toNat = 0 from rfl] at hx393_0); (try rw [Addr.add_zero'] at hx393_0); (try replace hx393_0 := (HB.out.cell (World.block_lt_of_cell? w _ hx393_0)).trans hx393_0); replace p393 := eq_true p393; replace q393 := eq_true q393; go_wp2_with (first | ((with_reducible refine gate_callee (f := 41) rfl ?_); refine goesL_ (some 46) rfl rfl Tryd.func41 (by kernel_rfl) rfl #[.slice (some ad393) l0_0.length c0_0, .int .i64 (rd l0_0 0)] rfl (by (try simp only [za, zc, zn]); first | done | rfl) ?_; (with_reducible refine (impl_leasts.calls k2 _ _ l0_0 (rd l0_0 0) t394 _ ?side1 ?side2 A31.out).mono ?_); (case side1 => exact zC (Kd.C_below HR0_0.out HB.out)); (case side2 => exact HC0_0.out); rintro e w32 ⟨v395, rfl, ho0, hb⟩; refine ⟨_, rfl, ?_⟩; have HO396 := Aside0.mk (Kd.R_lower ho0 (zS HB.out)); replace BK385 := Aside0.mk (blk_below (zk BK385.out) hb); replace HB := Aside0.mk (below_step (zB HB.out) hb); (try clear hb); (try clear hb2); (try clear hk); (try clear hi); (try clear ho0); obtain ⟨Ao33, co33, eo33⟩ := Kd.R_slice HO396.out; subst eo33)); go_loopg [48] k2 (fun kq v48 w' => ∃ (x48_3 : Int), v48 = .int .i64 x48_3 ∧ Aside0 (impl_IsSemigroup.l1 kq l0_0 t394 (t394.length : Int) x48_3 = some r) ∧ Aside0 (kq ≤ k2) ∧ Aside0 (Kd.R (Kd.int .i64) 3 w' w.heap.size (fun _ => True) (.slice Ao33 t394.length co33) t394) ∧ Aside0 (w'.heap[gb385]? = some (.cells #[(.slice (some ad393) l0_0.length c0_0)] 26 (0, 0))) ∧ Aside0 (Below w.heap.size w w'))
        case atStart => exact ⟨(0), (by first | rfl | (simp; done) | (simp [*]; done)), H', ⟨Nat.le_refl _⟩, ⟨zR HO396.out⟩, ⟨zk BK385.out⟩, ⟨zB HB.out⟩⟩
        case round =>
         clear H'
         try clear c21b0 c30b0 c30b1 hx393_0 p393 q393
         obtain ⟨x48_3, rfl, HA, HK3, HO_46, BK385, HB⟩ := hrel
         cases gk with
         | zero => exact absurd HA.out (by simp [impl_IsSemigroup.l1])
         | succ k3 =>
          have H := HA.out; clear HA; simp only [impl_IsSemigroup.l1] at H
          by_cases c34 : x48_3 < (t394.length : Int)
          ·rw [if_pos c34] at H; have c34b0 : decide (x48_3 < (t394.length : Int)) = true := decide_eq_true c34; clear c34; obtain ⟨c35, H⟩ := zi H; have c35b0 : decide (0 ≤ x48_3) = true := decide_eq_true c35; clear c35; obtain ⟨c36, H⟩ := zi H; have c36b0 : decide (x48_3 < (t394.length : Int)) = true := decide_eq_true c36; clear c36; obtain ⟨c37, H⟩ := zi H; have c37b0 : decide (0 < (l0_0.length : Int)) = true := decide_eq_true c37; have c37b1 : decide (0 < l0_0.length) = true := decide_eq_true (by omega); clear c37
           by_cases c38 : (wrap64 ((rd t394 x48_3) - (rd l0_0 0))) ≥ 200
           ·rw [if_pos c38] at H; have c38b0 : decide (200 ≤ (wrap64 ((rd t394 x48_3) - (rd l0_0 0)))) = true := decide_eq_true c38; clear c38; obtain rfl := Option.some.inj H; have p397 : 0 ≤ (x48_3 : Int) := of_decide_eq_true (by assumption); have q397 : x48_3 < (t394.length : Int) := of_decide_eq_true (by assumption); obtain ⟨ad397, e397, hx397_0⟩ := Kd.at_int (Kd.R_reads' HO_46.out).2.2 x48_3 p397 q397
            cases e397; replace p397 := eq_true p397; replace q397 := eq_true q397; have p398 : 0 ≤ (0 : Int) := (by omega); have q398 : 0 < (l0_0.length : Int) := of_decide_eq_true (by assumption); obtain ⟨ad398, e398, hx398_0⟩ := Kd.at_int HR0_0.out 0 p398 q398; obtain rfl : ad393 = ad398 := (by injection e398); have qi398 : (0 < l0_0.length) = True := eq_true (by omega); (try rw [show ((0 : Int)).toNat = 0 from rfl] at hx398_0); (try rw [Addr.add_zero'] at hx398_0); (try replace hx398_0 := (HB.out.cell (World.block_lt_of_cell? w _ hx398_0)).trans hx398_0); replace p398 := eq_true p398; replace q398 := eq_true q398; go_wp2; go_ret
            exact ⟨by first | rfl | (simp [*, errW_none, errW_some] <;> rfl), zB HB.out⟩
           ·rw [if_neg c38] at H; have c38b0 : decide (200 ≤ (wrap64 ((rd t394 x48_3) - (rd l0_0 0)))) = false := decide_eq_false c38; clear c38; have H' := Aside0.mk H; clear H; have p397 : 0 ≤ (x48_3 : Int) := of_decide_eq_true (by assumption); have q397 : x48_3 < (t394.length : Int) := of_decide_eq_true (by assumption); obtain ⟨ad397, e397, hx397_0⟩ := Kd.at_int (Kd.R_reads' HO_46.out).2.2 x48_3 p397 q397
            cases e397; replace p397 := eq_true p397; replace q397 := eq_true q397; have p398 : 0 ≤ (0 : Int) := (by omega); have q398 : 0 < (l0_0.length : Int) := of_decide_eq_true (by assumption); obtain ⟨ad398, e398, hx398_0⟩ := Kd.at_int HR0_0.out 0 p398 q398; obtain rfl : ad393 = ad398 := (by injection e398); have qi398 : (0 < l0_0.length) = True := eq_true (by omega); (try rw [show ((0 : Int)).toNat = 0 from rfl] at hx398_0); (try rw [Addr.add_zero'] at hx398_0); (try replace hx398_0 := (HB.out.cell (World.block_lt_of_cell? w _ hx398_0)).trans hx398_0); replace p398 := eq_true p398; replace q398 := eq_true q398; go_wp2
            go_roundg k3
            case measure => have := HJ1.out; have := HK2.out; have := HK3.out; omega
            case rel => exact ⟨(wrap64 (x48_3 + 1)), (by first | rfl | (simp; done) | (simp [*]; done)), H', ⟨by have := HJ1.out; have := HK2.out; have := HK3.out; omega⟩, ⟨zR HO_46.out⟩, ⟨zk BK385.out⟩, ⟨zB HB.out⟩⟩
          ·rw [if_neg c34] at H; have c34b0 : decide (x48_3 < (t394.length : Int)) = false := decide_eq_false c34; clear c34; obtain rfl := Option.some.inj H; go_wp2; go_ret
           exact ⟨by first | rfl | (simp [*, errW_none, errW_some] <;> rfl), zB HB.out⟩
       ·rw [if_neg c30] at H; exact absurd H (by simp)

end Go.Proofs.YthednemidaegkaaDoor.PFnTexts
