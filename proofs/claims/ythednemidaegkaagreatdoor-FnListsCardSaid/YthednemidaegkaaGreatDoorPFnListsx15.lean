-- Written by a program of this session (a turned copy of the kit's print; see NOTES.md).
import Derived.Test.YthednemidaegkaaGreatDoorPFnListsx0
import Derived.Test.YthednemidaegkaaGreatDoorPFnListsx13
namespace Go.Proofs.YthednemidaegkaaGreatDoor.PFnLists
open Go.RowKit Go.Proofs.YthednemidaegkaaGreatDoorW.PrintWords Go.Proofs.YthednemidaegkaaGreatDoorW.PrintLast Go.Proofs.YthednemidaegkaaGreatDoorW.PrintMore
attribute [local go_sem] max2_int min2_int max_two min_two max_three min_three max_four min_four   -- for this text's walks alone
set_option linter.unusedVariables false
set_option linter.unusedSimpArgs false

/-! ### spec_ParseInt: function 45 -/
def spec_ParseInt.f (k : Nat) (a0 : ByteArray) : Option (Int × Bool) := (spec_l1Read.f k a0 12).bind fun bt543 => (some (bt543.1, bt543.2))
set_option maxHeartbeats 8000000 in
set_option maxRecDepth 100000 in
theorem spec_ParseInt.calls (k : Nat) (a0 : ByteArray) (r1 : Int) (r2 : Bool) (w : World) (h : spec_ParseInt.f k a0 = some (r1, r2)) :
  Calls Tryz.prog 45 #[.string a0] w fun e w' => e = .returned (.tuple #[.int .i64 r1, .bool r2]) ∧ Below w.heap.size w w' := by
 have HB := Aside0.mk (Below.refl w.heap.size w); have H : ((spec_l1Read.f k a0 12).bind fun bt543 => (some (bt543.1, bt543.2))) = some (r1, r2) := h; clear h; obtain ⟨⟨t543, t544⟩, A2, H⟩ := zb H; (try dsimp only at H); simp only [Option.some.injEq, Prod.mk.injEq] at H; obtain ⟨rfl, rfl⟩ := H; go_enter Tryz.func45, Tryz.ntmps45; go_wp2_with (first | ((with_reducible refine gate_callee (f := 60) rfl ?_); refine goesL_ (some 5) rfl rfl Tryz.func60 (by kernel_rfl) rfl #[.string a0, .int .i64 12] rfl (by (try simp only [za, zc, zn]); first | done | rfl) ?_; (with_reducible refine (spec_l1Read.calls k a0 12 t543 t544 _ A2.out).mono ?_); rintro e w3 ⟨rfl, hb⟩; refine ⟨_, rfl, ?_⟩; replace HB := Aside0.mk (below_step (zB HB.out) hb); (try clear hb); (try clear hb2); (try clear hk); (try clear hi))); go_ret2; exact ⟨by first | rfl | (simp [*, errW_none, errW_some] <;> rfl), zB HB.out⟩

/-! ### spec_ParseList: function 15 -/
mutual
def spec_ParseList.l0 : Nat → ByteArray → List Int → List ByteArray → Int → Option (List Int × Bool)
 | 0, _, _, _, _ => none
 | k + 1, x0, x4, x5, x6 => if x6 < (x5.length : Int) then (spec_ParseList.j1 k x0 x4 x5 x6 (x0.toList != ([110, 111, 110, 101] : List UInt8))) else (spec_ParseList.j1 k x0 x4 x5 x6 false)
def spec_ParseList.j1 : Nat → ByteArray → List Int → List ByteArray → Int → Bool → Option (List Int × Bool)
 | 0, _, _, _, _, _ => none
 | k + 1, x0, x4, x5, x6, x19 => if x19 = true then (if 0 ≤ x6 then (if x6 < (x5.length : Int) then ((spec_ParseInt.f k (rdOf ByteArray.empty x5 x6)).bind fun bt552 => (if bt552.2 = true then (if x4.length < 17592186044416 then (spec_ParseList.l0 k x0 (x4 ++ [bt552.1]) x5 (wrap64 (x6 + 1))) else (none)) else (some ((([] : List Int)), false)))) else (none)) else (none)) else (some (x4, true))
end
def spec_ParseList.f (k : Nat) (a0 : ByteArray) : Option (List Int × Bool) := (spec_SplitByte.f k a0 44).bind fun t548 => (spec_ParseList.l0 k a0 (([] : List Int)) t548 0)
set_option maxHeartbeats 8000000 in
set_option maxRecDepth 100000 in
theorem spec_ParseList.calls (k : Nat) (a0 : ByteArray) (r1 : List Int) (r2 : Bool) (w : World) (h : spec_ParseList.f k a0 = some (r1, r2)) :
  Calls Tryz.prog 15 #[.string a0] w fun e w' => ∃ v0_ : Value, e = .returned (.tuple #[v0_, .bool r2]) ∧ Kd.R (Kd.int .i64) 3 w' w.heap.size (fun _ => True) v0_ r1 ∧ Below w.heap.size w w' := by
 have HB := Aside0.mk (Below.refl w.heap.size w); have H : ((spec_SplitByte.f k a0 44).bind fun t548 => (spec_ParseList.l0 k a0 (([] : List Int)) t548 0)) = some (r1, r2) := h; clear h; obtain ⟨y545, hy545⟩ : ∃ y_ : List Int, y_ = (([] : List Int)) := ⟨_, rfl⟩; replace H : ((spec_SplitByte.f k a0 44).bind fun t548 => (spec_ParseList.l0 k a0 y545 t548 0)) = some (r1, r2) := by first | (rw [hy545]; with_reducible exact H) | (have H2_ := (Option.bind_some _ _).symm.trans H; rw [hy545]; with_reducible exact H2_) | (have H2_ := (Option.bind_some _ _).symm.trans H; with_reducible exact H2_) | with_reducible exact H | (rw [hy545]; exact H) | exact H
 have Ny545 := Aside0.mk hy545; clear hy545; obtain ⟨t548, A2, H⟩ := zb H; have H' := Aside0.mk H; clear H; go_enter Tryz.func15, Tryz.ntmps15; go_wp2_with (first | ((with_reducible refine gate_dst (N := 9) rfl ?_); refine Kd.R_lit (Kd.int .i64) _ 3 ?hg (N := 9) ?hd (xs := ([] : List Int)) (inner := []) (ok := fun _ => True) (okp := fun _ => True) ?hr ?hp (fun _ hk => hk) trivial (Below.refl _ _) (Nat.le_refl _) (by simp) ?_; (case hd => rfl); (case hg => rfl); (case hr => first | (go_simp; done) | (go_simp; rfl)); (case hp => exact (Reps.none _ _)); intro v546 w3 ho4 hb hg_ hnew_; clear hg_ hnew_; (first | rw [← Ny545.out] at ho4 | (simp only [Int.reduceToNat] at ho4; rw [← Ny545.out] at ho4)); have HO547 := Aside0.mk (Kd.R_lower ho4 (zS HB.out)); replace HB := Aside0.mk (below_step (zB HB.out) hb); clear hb ho4) | ((with_reducible refine gate_callee (f := 44) rfl ?_); refine goesL_ (some 11) rfl rfl Tryz.func44 (by kernel_rfl) rfl #[.string a0, .int .u8 44] rfl (by (try simp only [za, zc, zn]); first | done | rfl) ?_; (with_reducible refine (spec_SplitByte.calls k a0 44 t548 _ A2.out).mono ?_); rintro e w5 ⟨v549, rfl, ho0, hb⟩; refine ⟨_, rfl, ?_⟩; replace HO547 := Aside0.mk (Kd.R_below (zR HO547.out) hb); have HO550 := Aside0.mk (Kd.R_lower ho0 (zS HB.out)); replace HB := Aside0.mk (below_step (zB HB.out) hb); (try clear hb); (try clear hb2); (try clear hk); (try clear hi); (try clear ho0))); go_loopg [4, 6] k (fun kq v4 v6 w' => ∃ (x4_1 : List Int) (x6_1 : Int), v6 = .int .i64 x6_1 ∧ Aside0 (spec_ParseList.l0 kq a0 x4_1 t548 x6_1 = some (r1, r2)) ∧ Aside0 (kq ≤ k) ∧ Aside0 (Kd.R (Kd.int .i64) 3 w' w.heap.size (fun _ => True) v4 x4_1) ∧ Aside0 (Kd.R Kd.string 9 w' w.heap.size (fun _ => True) v549 t548) ∧ Aside0 (Below w.heap.size w w'))
 case atStart => exact ⟨(y545), (0), (by first | rfl | (simp; done) | (simp [*]; done)), H', ⟨Nat.le_refl _⟩, ⟨zR HO547.out⟩, ⟨zR HO550.out⟩, ⟨zB HB.out⟩⟩
 case round =>
  clear H'; obtain ⟨x4_1, x6_1, rfl, HA, HK1, HO_4, HO_5, HB⟩ := hrel
  cases gk with
  | zero => exact absurd HA.out (by simp [spec_ParseList.l0])
  | succ k1 =>
   have H := HA.out; clear HA; simp only [spec_ParseList.l0] at H; have HC6 := Aside0.mk H; clear H; go_upto_region 4 with (fail)
   go_cut [19] (fun v19 wc => ∃ (kq : Nat) (x19_5 : Bool), v19 = .bool x19_5 ∧ Aside0 (spec_ParseList.j1 kq a0 x4_1 t548 x6_1 x19_5 = some (r1, r2)) ∧ Aside0 (kq ≤ k1) ∧ Aside0 (Kd.R (Kd.int .i64) 3 wc w.heap.size (fun _ => True) u4 x4_1) ∧ Aside0 (Kd.R Kd.string 9 wc w.heap.size (fun _ => True) v549 t548) ∧ Aside0 (Below w.heap.size w wc))
   case first =>
    have H := HC6.out; clear HC6
    by_cases c7 : x6_1 < (t548.length : Int)
    ·rw [if_pos c7] at H; have c7b0 : decide (x6_1 < (t548.length : Int)) = true := decide_eq_true c7; clear c7; (first | rw [c7b0] | rw [c7b1] | (simp only [i64_w, i32_w]; rw [c7b0]) | (rw [c7b2]; simp only [Bool.not_false, Bool.not_true]) | skip); have H' := Aside0.mk H; clear H; obtain ⟨Ao8, co8, eo8⟩ := Kd.R_slice HO_5.out; subst eo8; go_wp2
     go_meet
     case rel => exact ⟨_, ((a0.toList != ([110, 111, 110, 101] : List UInt8))), (by first | rfl | (simp; done) | (simp [*]; done)), H', ⟨by have := HK1.out; first | omega | exact Nat.le_refl _⟩, ⟨zR HO_4.out⟩, ⟨zR HO_5.out⟩, ⟨zB HB.out⟩⟩
    ·rw [if_neg c7] at H; have c7b0 : decide (x6_1 < (t548.length : Int)) = false := decide_eq_false c7; clear c7; (first | rw [c7b0] | rw [c7b1] | (simp only [i64_w, i32_w]; rw [c7b0]) | (rw [c7b2]; simp only [Bool.not_false, Bool.not_true]) | skip); have H' := Aside0.mk H; clear H; obtain ⟨Ao9, co9, eo9⟩ := Kd.R_slice HO_5.out; subst eo9; go_wp2
     go_meet
     case rel => exact ⟨_, (false), (by first | rfl | (simp; done) | (simp [*]; done)), H', ⟨by have := HK1.out; first | omega | exact Nat.le_refl _⟩, ⟨zR HO_4.out⟩, ⟨zR HO_5.out⟩, ⟨zB HB.out⟩⟩
   case rest =>
    clear HC6; obtain ⟨kq, x19_5, rfl, HA, HJ5, HO_4, HO_5, HB⟩ := hcut
    cases kq with
    | zero => exact absurd HA.out (by simp [spec_ParseList.j1])
    | succ kj5 =>
     have H := HA.out; clear HA; simp only [spec_ParseList.j1] at H
     by_cases c10 : x19_5 = true
     ·subst c10; rw [zT] at H; obtain ⟨c11, H⟩ := zi H; have c11b0 : decide (0 ≤ x6_1) = true := decide_eq_true c11; clear c11; obtain ⟨c12, H⟩ := zi H; have c12b0 : decide (x6_1 < (t548.length : Int)) = true := decide_eq_true c12; clear c12; obtain ⟨⟨t552, t553⟩, A13, H⟩ := zb H; (try dsimp only at H); have HU14 := Aside0.mk H; clear H; obtain ⟨Ao15, co15, eo15⟩ := Kd.R_slice HO_5.out; subst eo15; have p551 : 0 ≤ (x6_1 : Int) := of_decide_eq_true (by assumption); have q551 : x6_1 < (t548.length : Int) := of_decide_eq_true (by assumption); obtain ⟨ad551, e551, hx551_0⟩ := Kd.at_string (Kd.R_reads' HO_5.out).2.2 x6_1 p551 q551
      cases e551; replace p551 := eq_true p551; replace q551 := eq_true q551; go_upto_if 31 with (first | ((with_reducible refine gate_callee (f := 45) rfl ?_); refine goesL_ (some 27) rfl rfl Tryz.func45 (by kernel_rfl) rfl #[.string (rdOf ByteArray.empty t548 x6_1)] rfl (by (try simp only [za, zc, zn]); first | done | rfl) ?_; (with_reducible refine (spec_ParseInt.calls kj5 (rdOf ByteArray.empty t548 x6_1) t552 t553 _ A13.out).mono ?_); rintro e w16 ⟨rfl, hb⟩; refine ⟨_, rfl, ?_⟩; replace HO_4 := Aside0.mk (Kd.R_below (zR HO_4.out) hb); replace HO_5 := Aside0.mk (Kd.R_below (zR HO_5.out) hb); replace HB := Aside0.mk (below_step (zB HB.out) hb); (try clear hb); (try clear hb2); (try clear hk); (try clear hi)))
      (try simp only [Act.put, List.setIfInBounds_toArray, List.set_cons_zero, List.set_cons_succ]); have H := HU14.out; clear HU14
      by_cases c17 : t553 = true
      ·subst c17; rw [zT] at H; obtain ⟨c18, H⟩ := zi H; have LMc18 := Aside0.mk c18; clear c18; obtain ⟨y554, Ny554⟩ : ∃ y_ : List Int, Aside0 (y_ = (x4_1 ++ [t552])) := ⟨_, ⟨rfl⟩⟩; (try rw [Option.bind_some] at H); (try rw [← Ny554.out] at H); have H' := Aside0.mk H; clear H; go_wp2_with (first | ((with_reducible refine gate_builtin (b := .append) (xs := #[.tmp 33, .tmp 35]) rfl ?_); at_builtin; refine Kd.R_append (Kd.int .i64) (w0 := w) w.heap.size rfl (.tmp 33) (.tmp 35) 27 3 (.int .i64 0) 8 rfl Tryz.underlying27 info3 rfl (by decide) (by omega) u4 x4_1 t552 [.int .i64 t552] (fun _ => True) (fun _ => False) rfl rfl ?aP (fun _ hk => hk.elim) ?aF ?aO ?aB ?aS ?aL ?_; (case aP => exact rfl); (case aB => exact (zB HB.out)); (case aF => exact (fun _ _ => trivial)); (case aO => exact (zR HO_4.out)); (case aS => exact (zS HB.out)); (case aL => have := LMc18.out; omega); intro v555 w19 ho hb hg hat; rw [← Ny554.out] at ho; replace HO_5 := Aside0.mk (Kd.R_over' (zR HO_5.out) (Kd.R_typed (zR HO_4.out)) (by decide) hg); replace HB := Aside0.mk (hb); have HO556 := Aside0.mk (ho); clear HO_4; clear ho hb hg hat))
       go_roundg kj5
       case measure => have := HK1.out; have := HJ5.out; omega
       case rel => exact ⟨(y554), (wrap64 (x6_1 + 1)), (by first | rfl | (simp; done) | (simp [*]; done)), H', ⟨by have := HK1.out; have := HJ5.out; omega⟩, ⟨zR HO556.out⟩, ⟨zR HO_5.out⟩, ⟨zB HB.out⟩⟩
      ·replace c17 := Bool.eq_false_iff.mpr c17; subst c17; rw [zF] at H; obtain ⟨y557, hy557⟩ : ∃ y_ : List Int, y_ = (([] : List Int)) := ⟨_, rfl⟩; replace H : (some (y557, false)) = some (r1, r2) := by first | (rw [hy557]; with_reducible exact H) | (have H2_ := (Option.bind_some _ _).symm.trans H; rw [hy557]; with_reducible exact H2_) | (have H2_ := (Option.bind_some _ _).symm.trans H; with_reducible exact H2_) | with_reducible exact H | (rw [hy557]; exact H) | exact H
       have Ny557 := Aside0.mk hy557; clear hy557; simp only [Option.some.injEq, Prod.mk.injEq] at H; obtain ⟨rfl, rfl⟩ := H; go_wp2_with (first | ((with_reducible refine gate_dst (N := 32) rfl ?_); refine Kd.R_lit (Kd.int .i64) _ 3 ?hg (N := 32) ?hd (xs := ([] : List Int)) (inner := []) (ok := fun _ => True) (okp := fun _ => True) ?hr ?hp (fun _ hk => hk) trivial (Below.refl _ _) (Nat.le_refl _) (by simp) ?_; (case hd => rfl); (case hg => rfl); (case hr => first | (go_simp; done) | (go_simp; rfl)); (case hp => exact (Reps.none _ _)); intro v558 w20 ho21 hb hg_ hnew_; clear hg_ hnew_; (first | rw [← Ny557.out] at ho21 | (simp only [Int.reduceToNat] at ho21; rw [← Ny557.out] at ho21)); replace HO_5 := Aside0.mk (Kd.R_below (zR HO_5.out) hb); have HO559 := Aside0.mk (Kd.R_lower (Kd.R_new' ho21 (Kd.R_lt (zR HO_4.out))) (zS HB.out)); replace HO_4 := Aside0.mk (Kd.R_elder' (zR HO_4.out) (Kd.R_base ho21) hb); replace HB := Aside0.mk (below_step (zB HB.out) hb); clear hb ho21)); go_ret2; exact ⟨_, by first | rfl | (simp [*, errW_none, errW_some] <;> rfl), zR (Kd.R_mono HO559.out (fun _ hk => trivial)), zB HB.out⟩
     ·replace c10 := Bool.eq_false_iff.mpr c10; subst c10; rw [zF] at H; simp only [Option.some.injEq, Prod.mk.injEq] at H; obtain ⟨rfl, rfl⟩ := H; go_wp2; go_ret2; exact ⟨_, by first | rfl | (simp [*, errW_none, errW_some] <;> rfl), zR HO_4.out, zB HB.out⟩

/-! ### spec_l1In: function 61 -/
def spec_l1In.f (a0 : Int) (a1 : Int) (a2 : Int) : Option (Bool) := if a0 ≥ a1 then (some (decide (a0 ≤ a2))) else (some false)
set_option maxHeartbeats 8000000 in
set_option maxRecDepth 100000 in
theorem spec_l1In.calls (a0 : Int) (a1 : Int) (a2 : Int) (r : Bool) (w : World) (h : spec_l1In.f a0 a1 a2 = some r) :
  Calls Tryz.prog 61 #[.int .i64 a0, .int .i64 a1, .int .i64 a2] w fun e w' => e = .returned (.bool r) ∧ Drawn0 w w' := by
 have H : (if a0 ≥ a1 then (some (decide (a0 ≤ a2))) else (some false)) = some r := h; clear h
 by_cases c4 : a0 ≥ a1
 ·rw [if_pos c4] at H; have c4b0 : decide (a1 ≤ a0) = true := decide_eq_true c4; clear c4; obtain rfl := Option.some.inj H; go_enter Tryz.func61, Tryz.ntmps61; go_wp2; go_ret
  exact ⟨by first | rfl | (simp; done) | (simp [*]; done), by repeat (first | exact Drawn0.refl _ | apply Drawn0.step)⟩
 ·rw [if_neg c4] at H; have c4b0 : decide (a1 ≤ a0) = false := decide_eq_false c4; clear c4; obtain rfl := Option.some.inj H; go_enter Tryz.func61, Tryz.ntmps61; go_wp2; go_ret
  exact ⟨by first | rfl | (simp; done) | (simp [*]; done), by repeat (first | exact Drawn0.refl _ | apply Drawn0.step)⟩

/-! ### spec_l2Small: function 46 -/
def spec_l2Small.f (a0 : Int) : Option (Bool) := (spec_l1In.f a0 (-1000000) 1000000).bind fun t560 => (some t560)
set_option maxHeartbeats 8000000 in
set_option maxRecDepth 100000 in
theorem spec_l2Small.calls (a0 : Int) (r : Bool) (w : World) (h : spec_l2Small.f a0 = some r) :
  Calls Tryz.prog 46 #[.int .i64 a0] w fun e w' => e = .returned (.bool r) ∧ Drawn0 w w' := by
 have H : ((spec_l1In.f a0 (-1000000) 1000000).bind fun t560 => (some t560)) = some r := h; clear h; obtain ⟨t560, A2, H⟩ := zb H; obtain rfl := Option.some.inj H; go_enter Tryz.func46, Tryz.ntmps46; go_wp2_with (first | ((with_reducible refine gate_callee (f := 61) rfl ?_); refine goesL_ (some 4) rfl rfl Tryz.func61 (by kernel_rfl) rfl #[.int .i64 a0, .int .i64 (-1000000), .int .i64 1000000] rfl (by (try simp only [za, zc, zn]); first | done | rfl) ?_; (with_reducible refine (spec_l1In.calls a0 (-1000000) 1000000 t560 _ A2.out).mono ?_); rintro e w' ⟨rfl, ⟨nd, rfl⟩⟩; refine ⟨_, rfl, ?_⟩)); go_ret
 exact ⟨by first | rfl | (simp; done) | (simp [*]; done), by repeat (first | exact Drawn0.refl _ | apply Drawn0.step)⟩

/-! ### spec_l1Max: function 47 -/
def spec_l1Max.f (a0 : Int) (a1 : Int) : Option (Int) := if a0 > a1 then (some a0) else (some a1)
set_option maxHeartbeats 8000000 in
set_option maxRecDepth 100000 in
theorem spec_l1Max.calls (a0 : Int) (a1 : Int) (r : Int) (w : World) (h : spec_l1Max.f a0 a1 = some r) :
  Calls Tryz.prog 47 #[.int .i64 a0, .int .i64 a1] w fun e w' => e = .returned (.int .i64 r) ∧ Drawn0 w w' := by
 have H : (if a0 > a1 then (some a0) else (some a1)) = some r := h; clear h
 by_cases c3 : a0 > a1
 ·rw [if_pos c3] at H; have c3b0 : decide (a1 < a0) = true := decide_eq_true c3; clear c3; obtain rfl := Option.some.inj H; go_enter Tryz.func47, Tryz.ntmps47; go_wp2; go_ret
  exact ⟨by first | rfl | (simp; done) | (simp [*]; done), by repeat (first | exact Drawn0.refl _ | apply Drawn0.step)⟩
 ·rw [if_neg c3] at H; have c3b0 : decide (a1 < a0) = false := decide_eq_false c3; clear c3; obtain rfl := Option.some.inj H; go_enter Tryz.func47, Tryz.ntmps47; go_wp2; go_ret
  exact ⟨by first | rfl | (simp; done) | (simp [*]; done), by repeat (first | exact Drawn0.refl _ | apply Drawn0.step)⟩

/-! ### spec_GcdOf: function 16 -/
mutual
def spec_GcdOf.j0 : Nat → Int → Int → Bool → Option (Int)
 | 0, _, _, _ => none
 | k + 1, x0, x1, x13 => if x13 = true then (some 0) else ((spec_l1Max.f x0 (wrap64 (-x0))).bind fun t563 => ((spec_l1Max.f x1 (wrap64 (-x1))).bind fun t564 => (spec_GcdOf.l0 k t563 t564)))
def spec_GcdOf.l0 : Nat → Int → Int → Option (Int)
 | 0, _, _ => none
 | k + 1, x0, x1 => if x1 > 0 then (if x1 = 0 then (none) else (spec_GcdOf.l0 k x1 (Int.tmod x0 x1))) else (some x0)
end
def spec_GcdOf.f (k : Nat) (a0 : Int) (a1 : Int) : Option (Int) := (spec_l2Small.f a0).bind fun t561 => (if t561 = true then ((spec_l2Small.f a1).bind fun t562 => (spec_GcdOf.j0 k a0 a1 (!t562))) else (spec_GcdOf.j0 k a0 a1 true))
set_option maxHeartbeats 8000000 in
set_option maxRecDepth 100000 in
theorem spec_GcdOf.calls (k : Nat) (a0 : Int) (a1 : Int) (r : Int) (w : World) (h : spec_GcdOf.f k a0 a1 = some r) :
  Calls Tryz.prog 16 #[.int .i64 a0, .int .i64 a1] w fun e w' => e = .returned (.int .i64 r) ∧ Drawn0 w w' := by
 have H : ((spec_l2Small.f a0).bind fun t561 => (if t561 = true then ((spec_l2Small.f a1).bind fun t562 => (spec_GcdOf.j0 k a0 a1 (!t562))) else (spec_GcdOf.j0 k a0 a1 true))) = some r := h; clear h; have HC3 := Aside0.mk H; clear H; go_enter Tryz.func16, Tryz.ntmps16; go_upto_region 1 with (fail)
 go_cut [13] (fun v13 wc => ∃ (kq : Nat) (x13_2 : Bool), v13 = .bool x13_2 ∧ Aside0 (spec_GcdOf.j0 kq a0 a1 x13_2 = some r) ∧ Aside0 (kq ≤ k) ∧ Drawn0 w wc)
 case first =>
  have H := HC3.out; clear HC3; obtain ⟨t561, A4, H⟩ := zb H
  by_cases c5 : t561 = true
  ·subst c5; rw [zT] at H; obtain ⟨t562, A6, H⟩ := zb H; have H' := Aside0.mk H; clear H; go_wp2_with (first | ((with_reducible refine gate_callee (f := 46) rfl ?_); refine goesL_ (some 7) rfl rfl Tryz.func46 (by kernel_rfl) rfl #[.int .i64 a0] rfl (by (try simp only [za, zc, zn]); first | done | rfl) ?_; (with_reducible refine (spec_l2Small.calls a0 true _ A4.out).mono ?_); rintro e w' ⟨rfl, ⟨nd, rfl⟩⟩; refine ⟨_, rfl, ?_⟩) | (go_at_call 46; (with_reducible refine (spec_l2Small.calls a1 t562 _ A6.out).mono ?_); rintro e w' ⟨rfl, ⟨nd, rfl⟩⟩))
   go_meet
   case rel => exact ⟨_, (!t562), (by first | rfl | (simp; done) | (simp [*]; done)), H', ⟨by first | omega | exact Nat.le_refl _⟩, by repeat (first | exact Drawn0.refl _ | apply Drawn0.step)⟩
  ·replace c5 := Bool.eq_false_iff.mpr c5; subst c5; rw [zF] at H; have H' := Aside0.mk H; clear H; go_wp2_with (first | ((with_reducible refine gate_callee (f := 46) rfl ?_); refine goesL_ (some 7) rfl rfl Tryz.func46 (by kernel_rfl) rfl #[.int .i64 a0] rfl (by (try simp only [za, zc, zn]); first | done | rfl) ?_; (with_reducible refine (spec_l2Small.calls a0 false _ A4.out).mono ?_); rintro e w' ⟨rfl, ⟨nd, rfl⟩⟩; refine ⟨_, rfl, ?_⟩))
   go_meet
   case rel => exact ⟨_, (true), (by first | rfl | (simp; done) | (simp [*]; done)), H', ⟨by first | omega | exact Nat.le_refl _⟩, by repeat (first | exact Drawn0.refl _ | apply Drawn0.step)⟩
 case rest =>
  clear HC3; obtain ⟨kq, x13_2, rfl, HA, HJ2, ⟨mc2, rfl⟩⟩ := hcut
  cases kq with
  | zero => exact absurd HA.out (by simp [spec_GcdOf.j0])
  | succ kj2 =>
   have H := HA.out; clear HA; simp only [spec_GcdOf.j0] at H
   by_cases c7 : x13_2 = true
   ·subst c7; rw [zT] at H; obtain rfl := Option.some.inj H; go_wp2; go_ret
    exact ⟨by first | rfl | (simp; done) | (simp [*]; done), by repeat (first | exact Drawn0.refl _ | apply Drawn0.step)⟩
   ·replace c7 := Bool.eq_false_iff.mpr c7; subst c7; rw [zF] at H; obtain ⟨t563, A8, H⟩ := zb H; obtain ⟨t564, A9, H⟩ := zb H; have H' := Aside0.mk H; clear H; go_wp2_with (first | ((with_reducible refine gate_callee (f := 47) rfl ?_); refine goesL_ (some 17) rfl rfl Tryz.func47 (by kernel_rfl) rfl #[.int .i64 a0, .int .i64 (wrap64 (-a0))] rfl (by (try simp only [za, zc, zn]); first | done | rfl) ?_; (with_reducible refine (spec_l1Max.calls a0 (wrap64 (-a0)) t563 _ A8.out).mono ?_); rintro e w' ⟨rfl, ⟨nd, rfl⟩⟩; refine ⟨_, rfl, ?_⟩) | ((with_reducible refine gate_callee (f := 47) rfl ?_); refine goesL_ (some 21) rfl rfl Tryz.func47 (by kernel_rfl) rfl #[.int .i64 a1, .int .i64 (wrap64 (-a1))] rfl (by (try simp only [za, zc, zn]); first | done | rfl) ?_; (with_reducible refine (spec_l1Max.calls a1 (wrap64 (-a1)) t564 _ A9.out).mono ?_); rintro e w' ⟨rfl, ⟨nd, rfl⟩⟩; refine ⟨_, rfl, ?_⟩)); go_loopg [0, 1] kj2 (fun kq v0 v1 w' => ∃ (x0_2 : Int) (x1_2 : Int), v0 = .int .i64 x0_2 ∧ v1 = .int .i64 x1_2 ∧ Aside0 (spec_GcdOf.l0 kq x0_2 x1_2 = some r) ∧ Aside0 (kq ≤ kj2) ∧ Drawn0 w w')
    case atStart => exact ⟨(t563), (t564), (by first | rfl | (simp; done) | (simp [*]; done)), (by first | rfl | (simp; done) | (simp [*]; done)), H', ⟨Nat.le_refl _⟩, by repeat (first | exact Drawn0.refl _ | apply Drawn0.step)⟩
    case round =>
     clear H'
     try clear c7
     obtain ⟨x0_2, x1_2, rfl, rfl, HA, HK2, ⟨m2, rfl⟩⟩ := hrel
     cases gk with
     | zero => exact absurd HA.out (by simp [spec_GcdOf.l0])
     | succ k2 =>
      have H := HA.out; clear HA; simp only [spec_GcdOf.l0] at H
      by_cases c10 : x1_2 > 0
      ·rw [if_pos c10] at H; have c10b0 : decide (0 < x1_2) = true := decide_eq_true c10; clear c10
       by_cases c11 : x1_2 = 0
       ·rw [if_pos c11] at H; exact absurd H (by simp)
       ·rw [if_neg c11] at H; have c11b0 : (x1_2 == 0) = false := beq_eq_false_iff_ne.mpr c11; have c11b1 : (x1_2 != 0) = true := bne_iff_ne.mpr c11; have H' := Aside0.mk H; clear H; go_wp2
        go_roundg k2
        case measure => have := HJ2.out; have := HK2.out; omega
        case rel => exact ⟨(x1_2), (Int.tmod x0_2 x1_2), (by first | rfl | (simp; done) | (simp [*]; done)), (by first | rfl | (simp; done) | (simp [*]; done)), H', ⟨by have := HJ2.out; have := HK2.out; omega⟩, by repeat (first | exact Drawn0.refl _ | apply Drawn0.step)⟩
      ·rw [if_neg c10] at H; have c10b0 : decide (0 < x1_2) = false := decide_eq_false c10; clear c10; obtain rfl := Option.some.inj H; go_wp2; go_ret
       exact ⟨by first | rfl | (simp; done) | (simp [*]; done), by repeat (first | exact Drawn0.refl _ | apply Drawn0.step)⟩

/-! ### laws_sameInts: function 17 -/
def laws_sameInts.l0 : Nat → List Int → List Int → Int → Option (Bool)
 | 0, _, _, _ => none
 | k + 1, x0, x1, x5 => if x5 < (x0.length : Int) then (if 0 ≤ x5 then (if x5 < (x1.length : Int) then (if (rd x0 x5) = (rd x1 x5) then (laws_sameInts.l0 k x0 x1 (wrap64 (x5 + 1))) else (some false)) else (none)) else (none)) else (some true)
def laws_sameInts.f (k : Nat) (l0 : List Int) (l1 : List Int) : Option (Bool) := if (l0.length : Int) = (l1.length : Int) then (laws_sameInts.l0 k l0 l1 0) else (some false)
set_option maxHeartbeats 8000000 in
set_option maxRecDepth 100000 in
theorem laws_sameInts.calls (k : Nat) (A0 : Option Addr) (c0 : Nat) (l0 : List Int) (A1 : Option Addr) (c1 : Nat) (l1 : List Int) (r : Bool) (w : World) (hr0 : Kd.C (Kd.int .i64) w A0 l0.length l0) (hc0 : l0.length ≤ c0) (hr1 : Kd.C (Kd.int .i64) w A1 l1.length l1) (hc1 : l1.length ≤ c1) (h : laws_sameInts.f k l0 l1 = some r) :
  Calls Tryz.prog 17 #[.slice A0 l0.length c0, .slice A1 l1.length c1] w fun e w' => e = .returned (.bool r) ∧ Drawn0 w w' := by
 have HR0 := Aside0.mk hr0; have HC0 := Aside0.mk hc0; clear hr0 hc0; have HR1 := Aside0.mk hr1; have HC1 := Aside0.mk hc1; clear hr1 hc1; have H : (if (l0.length : Int) = (l1.length : Int) then (laws_sameInts.l0 k l0 l1 0) else (some false)) = some r := h; clear h
 by_cases c3 : (l0.length : Int) = (l1.length : Int)
 ·rw [if_pos c3] at H; have c3b0 : ((l0.length : Int) == (l1.length : Int)) = true := beq_iff_eq.mpr c3; have c3b1 : ((l0.length : Int) != (l1.length : Int)) = false := bne_eq_false_iff_eq.mpr c3; have c3b2 : (l0.length == l1.length) = true := by first | simpa using c3 | (simp at c3 ⊢; omega)
  clear c3; have H' := Aside0.mk H; clear H; go_enter Tryz.func17, Tryz.ntmps17; go_wp2
  repeat (go_quiet (fail); try go_wp2)
  go_loopg [5] k (fun kq v5 w' => ∃ (x5_1 : Int), v5 = .int .i64 x5_1 ∧ Aside0 (laws_sameInts.l0 kq l0 l1 x5_1 = some r) ∧ Aside0 (kq ≤ k) ∧ Drawn0 w w')
  case atStart => exact ⟨(0), (by first | rfl | (simp; done) | (simp [*]; done)), H', ⟨Nat.le_refl _⟩, by repeat (first | exact Drawn0.refl _ | apply Drawn0.step)⟩
  case round =>
   clear H'
   try clear c3b0 c3b1 c3b2
   obtain ⟨x5_1, rfl, HA, HK1, ⟨m1, rfl⟩⟩ := hrel
   cases gk with
   | zero => exact absurd HA.out (by simp [laws_sameInts.l0])
   | succ k1 =>
    have H := HA.out; clear HA; simp only [laws_sameInts.l0] at H
    by_cases c4 : x5_1 < (l0.length : Int)
    ·rw [if_pos c4] at H; have c4b0 : decide (x5_1 < (l0.length : Int)) = true := decide_eq_true c4; clear c4; obtain ⟨c5, H⟩ := zi H; have c5b0 : decide (0 ≤ x5_1) = true := decide_eq_true c5; clear c5; obtain ⟨c6, H⟩ := zi H; have c6b0 : decide (x5_1 < (l1.length : Int)) = true := decide_eq_true c6; clear c6
     by_cases c7 : (rd l0 x5_1) = (rd l1 x5_1)
     ·rw [if_pos c7] at H; have c7b0 : ((rd l0 x5_1) == (rd l1 x5_1)) = true := beq_iff_eq.mpr c7; have c7b1 : ((rd l0 x5_1) != (rd l1 x5_1)) = false := bne_eq_false_iff_eq.mpr c7; clear c7; have H' := Aside0.mk H; clear H; have p565 : 0 ≤ (x5_1 : Int) := of_decide_eq_true (by assumption); have q565 : x5_1 < (l0.length : Int) := of_decide_eq_true (by assumption); obtain ⟨ad565, e565, hx565_0⟩ := Kd.at_int HR0.out x5_1 p565 q565
      cases e565; replace p565 := eq_true p565; replace q565 := eq_true q565; have p566 : 0 ≤ (x5_1 : Int) := of_decide_eq_true (by assumption); have q566 : x5_1 < (l1.length : Int) := of_decide_eq_true (by assumption); obtain ⟨ad566, e566, hx566_0⟩ := Kd.at_int HR1.out x5_1 p566 q566
      cases e566; replace p566 := eq_true p566; replace q566 := eq_true q566; go_wp2
      repeat (go_quiet (fail); try go_wp2)
      go_roundg k1
      case measure => have := HK1.out; omega
      case rel => exact ⟨(wrap64 (x5_1 + 1)), (by first | rfl | (simp; done) | (simp [*]; done)), H', ⟨by have := HK1.out; omega⟩, by repeat (first | exact Drawn0.refl _ | apply Drawn0.step)⟩
     ·rw [if_neg c7] at H; have c7b0 : ((rd l0 x5_1) == (rd l1 x5_1)) = false := beq_eq_false_iff_ne.mpr c7; have c7b1 : ((rd l0 x5_1) != (rd l1 x5_1)) = true := bne_iff_ne.mpr c7; obtain rfl := Option.some.inj H; have p565 : 0 ≤ (x5_1 : Int) := of_decide_eq_true (by assumption); have q565 : x5_1 < (l0.length : Int) := of_decide_eq_true (by assumption); obtain ⟨ad565, e565, hx565_0⟩ := Kd.at_int HR0.out x5_1 p565 q565
      cases e565; replace p565 := eq_true p565; replace q565 := eq_true q565; have p566 : 0 ≤ (x5_1 : Int) := of_decide_eq_true (by assumption); have q566 : x5_1 < (l1.length : Int) := of_decide_eq_true (by assumption); obtain ⟨ad566, e566, hx566_0⟩ := Kd.at_int HR1.out x5_1 p566 q566
      cases e566; replace p566 := eq_true p566; replace q566 := eq_true q566; go_wp2
      repeat (go_quiet (fail); try go_wp2)
      go_ret
      exact ⟨by first | rfl | (simp; done) | (simp [*]; done), by repeat (first | exact Drawn0.refl _ | apply Drawn0.step)⟩
    ·rw [if_neg c4] at H; have c4b0 : decide (x5_1 < (l0.length : Int)) = false := decide_eq_false c4; clear c4; obtain rfl := Option.some.inj H; go_wp2
     repeat (go_quiet (fail); try go_wp2)
     go_ret
     exact ⟨by first | rfl | (simp; done) | (simp [*]; done), by repeat (first | exact Drawn0.refl _ | apply Drawn0.step)⟩
 ·rw [if_neg c3] at H; have c3b0 : ((l0.length : Int) == (l1.length : Int)) = false := beq_eq_false_iff_ne.mpr c3; have c3b1 : ((l0.length : Int) != (l1.length : Int)) = true := bne_iff_ne.mpr c3; have c3b2 : (l0.length == l1.length) = false := by first | simpa using c3 | (simp at c3 ⊢; omega)
  obtain rfl := Option.some.inj H; go_enter Tryz.func17, Tryz.ntmps17; go_wp2
  repeat (go_quiet (fail); try go_wp2)
  go_ret
  exact ⟨by first | rfl | (simp; done) | (simp [*]; done), by repeat (first | exact Drawn0.refl _ | apply Drawn0.step)⟩

/-! ### spec_IsAscending: function 19 -/
def spec_IsAscending.l0 : Nat → List Int → Int → Option (Bool)
 | 0, _, _ => none
 | k + 1, x0, x3 => if x3 < (x0.length : Int) then (if 0 ≤ (wrap64 (x3 - 1)) then (if (wrap64 (x3 - 1)) < (x0.length : Int) then (if 0 ≤ x3 then (if (rd x0 (wrap64 (x3 - 1))) ≥ (rd x0 x3) then (some false) else (spec_IsAscending.l0 k x0 (wrap64 (x3 + 1)))) else (none)) else (none)) else (none)) else (some true)
def spec_IsAscending.f (k : Nat) (l0 : List Int) : Option (Bool) := spec_IsAscending.l0 k l0 1
set_option maxHeartbeats 8000000 in
set_option maxRecDepth 100000 in
theorem spec_IsAscending.calls (k : Nat) (A0 : Option Addr) (c0 : Nat) (l0 : List Int) (r : Bool) (w : World) (hr0 : Kd.C (Kd.int .i64) w A0 l0.length l0) (hc0 : l0.length ≤ c0) (h : spec_IsAscending.f k l0 = some r) :
  Calls Tryz.prog 19 #[.slice A0 l0.length c0] w fun e w' => e = .returned (.bool r) ∧ Drawn0 w w' := by
 have HR0 := Aside0.mk hr0; have HC0 := Aside0.mk hc0; clear hr0 hc0; have H : (spec_IsAscending.l0 k l0 1) = some r := h; clear h; have H' := Aside0.mk H; clear H; go_enter Tryz.func19, Tryz.ntmps19; go_wp2
 repeat (go_quiet (fail); try go_wp2)
 go_loopg [3] k (fun kq v3 w' => ∃ (x3_1 : Int), v3 = .int .i64 x3_1 ∧ Aside0 (spec_IsAscending.l0 kq l0 x3_1 = some r) ∧ Aside0 (kq ≤ k) ∧ Drawn0 w w')
 case atStart => exact ⟨(1), (by first | rfl | (simp; done) | (simp [*]; done)), H', ⟨Nat.le_refl _⟩, by repeat (first | exact Drawn0.refl _ | apply Drawn0.step)⟩
 case round =>
  clear H'; obtain ⟨x3_1, rfl, HA, HK1, ⟨m1, rfl⟩⟩ := hrel
  cases gk with
  | zero => exact absurd HA.out (by simp [spec_IsAscending.l0])
  | succ k1 =>
   have H := HA.out; clear HA; simp only [spec_IsAscending.l0] at H
   by_cases c2 : x3_1 < (l0.length : Int)
   ·rw [if_pos c2] at H; have c2b0 : decide (x3_1 < (l0.length : Int)) = true := decide_eq_true c2; clear c2; obtain ⟨ji3, hji3⟩ : ∃ j_ : Int, (wrap64 (x3_1 - 1)) = j_ := ⟨_, rfl⟩; replace H : (if 0 ≤ (ji3) then (if (ji3) < (l0.length : Int) then (if 0 ≤ x3_1 then (if (rd l0 (ji3)) ≥ (rd l0 x3_1) then (some false) else (spec_IsAscending.l0 k1 l0 (wrap64 (x3_1 + 1)))) else (none)) else (none)) else (none)) = some r := by first | (rw [hji3] at H; exact H) | (simp only [hji3] at H ⊢; exact H)
    have hji3w : (IntKind.i64.wrap (x3_1 - 1)) = ji3 := (i64_w _).trans hji3; obtain ⟨c4, H⟩ := zi H; have c4b0 : decide (0 ≤ (ji3)) = true := decide_eq_true c4; clear c4; obtain ⟨c5, H⟩ := zi H; have c5b0 : decide ((ji3) < (l0.length : Int)) = true := decide_eq_true c5; clear c5; obtain ⟨c6, H⟩ := zi H; have c6b0 : decide (0 ≤ x3_1) = true := decide_eq_true c6; clear c6
    by_cases c7 : (rd l0 (ji3)) ≥ (rd l0 x3_1)
    ·rw [if_pos c7] at H; have c7b0 : decide ((rd l0 x3_1) ≤ (rd l0 (ji3))) = true := decide_eq_true c7; clear c7; obtain rfl := Option.some.inj H; have p567 : 0 ≤ ((ji3) : Int) := of_decide_eq_true (by assumption); have q567 : (ji3) < (l0.length : Int) := of_decide_eq_true (by assumption); obtain ⟨ad567, e567, hx567_0⟩ := Kd.at_int HR0.out (ji3) p567 q567
     cases e567; replace p567 := eq_true p567; replace q567 := eq_true q567; have p568 : 0 ≤ (x3_1 : Int) := of_decide_eq_true (by assumption); have q568 : x3_1 < (l0.length : Int) := of_decide_eq_true (by assumption); obtain ⟨ad568, e568, hx568_0⟩ := Kd.at_int HR0.out x3_1 p568 q568; obtain rfl : ad567 = ad568 := (by injection e568); replace p568 := eq_true p568; replace q568 := eq_true q568; go_wp2
     repeat (go_quiet (fail); try go_wp2)
     go_ret
     exact ⟨by first | rfl | (simp; done) | (simp only [← hji3] <;> (first | rfl | simp)) | (simp [*]; done), by repeat (first | exact Drawn0.refl _ | apply Drawn0.step)⟩
    ·rw [if_neg c7] at H; have c7b0 : decide ((rd l0 x3_1) ≤ (rd l0 (ji3))) = false := decide_eq_false c7; clear c7; have H' := Aside0.mk H; clear H; have p567 : 0 ≤ ((ji3) : Int) := of_decide_eq_true (by assumption); have q567 : (ji3) < (l0.length : Int) := of_decide_eq_true (by assumption); obtain ⟨ad567, e567, hx567_0⟩ := Kd.at_int HR0.out (ji3) p567 q567
     cases e567; replace p567 := eq_true p567; replace q567 := eq_true q567; have p568 : 0 ≤ (x3_1 : Int) := of_decide_eq_true (by assumption); have q568 : x3_1 < (l0.length : Int) := of_decide_eq_true (by assumption); obtain ⟨ad568, e568, hx568_0⟩ := Kd.at_int HR0.out x3_1 p568 q568; obtain rfl : ad567 = ad568 := (by injection e568); replace p568 := eq_true p568; replace q568 := eq_true q568; go_wp2
     repeat (go_quiet (fail); try go_wp2)
     go_roundg k1
     case measure => have := HK1.out; omega
     case rel => exact ⟨(wrap64 (x3_1 + 1)), (by first | rfl | (simp; done) | (simp [*]; done)), H', ⟨by have := HK1.out; omega⟩, by repeat (first | exact Drawn0.refl _ | apply Drawn0.step)⟩
   ·rw [if_neg c2] at H; have c2b0 : decide (x3_1 < (l0.length : Int)) = false := decide_eq_false c2; clear c2; obtain rfl := Option.some.inj H; go_wp2
    repeat (go_quiet (fail); try go_wp2)
    go_ret
    exact ⟨by first | rfl | (simp; done) | (simp [*]; done), by repeat (first | exact Drawn0.refl _ | apply Drawn0.step)⟩

/-! ### impl_SumsOf: function 20 -/
mutual
def impl_SumsOf.j0 : Nat → List Int → List Int → Bool → Option (List Int)
 | 0, _, _, _ => none
 | k + 1, x0, x1, x27 => if x27 = true then (some ([] : List Int)) else (impl_SumsOf.l0 k x1 (([] : List Int)) x0 (x0.length : Int) 0)
def impl_SumsOf.l0 : Nat → List Int → List Int → List Int → Int → Int → Option (List Int)
 | 0, _, _, _, _, _ => none
 | k + 1, x1, x5, x29, x30, x31 => if x31 < x30 then (if 0 ≤ x31 then (if x31 < (x29.length : Int) then (impl_SumsOf.l1 k x1 x5 (rd x29 x31) x29 x30 x31 x1 (x1.length : Int) 0) else (none)) else (none)) else ((impl_SortList.f x5).bind fun t574 => (some t574))
def impl_SumsOf.l1 : Nat → List Int → List Int → Int → List Int → Int → Int → List Int → Int → Int → Option (List Int)
 | 0, _, _, _, _, _, _, _, _, _ => none
 | k + 1, x1, x5, x7, x29, x30, x31, x35, x36, x37 => if x37 < x36 then (if 0 ≤ x37 then (if x37 < (x35.length : Int) then (if x5.length < 17592186044416 then (impl_SumsOf.l1 k x1 (x5 ++ [wrap64 (x7 + (rd x35 x37))]) x7 x29 x30 x31 x35 x36 (wrap64 (x37 + 1))) else (none)) else (none)) else (none)) else (impl_SumsOf.l0 k x1 x5 x29 x30 (wrap64 (x31 + 1)))
end
def impl_SumsOf.f (k : Nat) (l0 : List Int) (l1 : List Int) : Option (List Int) := (impl_allWithin.f k l0 (-1000000) 1000000).bind fun t569 => (if t569 = true then ((impl_allWithin.f k l1 (-1000000) 1000000).bind fun t570 => (if t570 = true then (if (l0.length : Int) > 300 then (impl_SumsOf.j0 k l0 l1 true) else (impl_SumsOf.j0 k l0 l1 (decide ((l1.length : Int) > 300)))) else (impl_SumsOf.j0 k l0 l1 true))) else (impl_SumsOf.j0 k l0 l1 true))
set_option maxHeartbeats 8000000 in
set_option maxRecDepth 100000 in
theorem impl_SumsOf.calls (k : Nat) (A0 : Option Addr) (c0 : Nat) (l0 : List Int) (A1 : Option Addr) (c1 : Nat) (l1 : List Int) (r : List Int) (w : World) (hr0 : Kd.C (Kd.int .i64) w A0 l0.length l0) (hc0 : l0.length ≤ c0) (hr1 : Kd.C (Kd.int .i64) w A1 l1.length l1) (hc1 : l1.length ≤ c1) (h : impl_SumsOf.f k l0 l1 = some r) :
  Calls Tryz.prog 20 #[.slice A0 l0.length c0, .slice A1 l1.length c1] w fun e w' => ∃ v0_ : Value, e = .returned (v0_) ∧ Kd.R (Kd.int .i64) 3 w' w.heap.size (fun _ => True) v0_ r ∧ Below w.heap.size w w' := by
 have HR0 := Aside0.mk hr0; have HC0 := Aside0.mk hc0; clear hr0 hc0; have HR1 := Aside0.mk hr1; have HC1 := Aside0.mk hc1; clear hr1 hc1; have HB := Aside0.mk (Below.refl w.heap.size w); have H : ((impl_allWithin.f k l0 (-1000000) 1000000).bind fun t569 => (if t569 = true then ((impl_allWithin.f k l1 (-1000000) 1000000).bind fun t570 => (if t570 = true then (if (l0.length : Int) > 300 then (impl_SumsOf.j0 k l0 l1 true) else (impl_SumsOf.j0 k l0 l1 (decide ((l1.length : Int) > 300)))) else (impl_SumsOf.j0 k l0 l1 true))) else (impl_SumsOf.j0 k l0 l1 true))) = some r := h; clear h; have HC3 := Aside0.mk H; clear H; go_enter Tryz.func20, Tryz.ntmps20; go_upto_region 1 with (fail)
 go_cut [27] (fun v27 wc => ∃ (kq : Nat) (x27_2 : Bool), v27 = .bool x27_2 ∧ Aside0 (impl_SumsOf.j0 kq l0 l1 x27_2 = some r) ∧ Aside0 (kq ≤ k) ∧ Aside0 (Below w.heap.size w wc))
 case first =>
  have H := HC3.out; clear HC3; obtain ⟨t569, A4, H⟩ := zb H
  by_cases c5 : t569 = true
  ·subst c5; rw [zT] at H; obtain ⟨t570, A6, H⟩ := zb H
   by_cases c7 : t570 = true
   ·subst c7; rw [zT] at H
    by_cases c8 : (l0.length : Int) > 300
    ·rw [if_pos c8] at H; have c8b0 : decide (300 < (l0.length : Int)) = true := decide_eq_true c8; have c8b1 : decide (300 < l0.length) = true := decide_eq_true (by omega); clear c8; (first | rw [c8b0] | rw [c8b1] | (simp only [i64_w, i32_w]; rw [c8b0]) | (rw [c8b2]; simp only [Bool.not_false, Bool.not_true]) | skip); have H' := Aside0.mk H; clear H; go_wp2_with (first | ((with_reducible refine gate_callee (f := 36) rfl ?_); refine goesL_ (some 11) rfl rfl Tryz.func36 (by kernel_rfl) rfl #[.slice A0 l0.length c0, .int .i64 (-1000000), .int .i64 1000000] rfl (by (try simp only [za, zc, zn]); first | done | rfl) ?_; (with_reducible refine (impl_allWithin.calls k _ _ l0 (-1000000) 1000000 true _ ?side1 ?side2 A4.out).mono ?_); (case side1 => exact zC (Kd.C_below HR0.out HB.out)); (case side2 => exact HC0.out); rintro e w9 ⟨rfl, hb⟩; refine ⟨_, rfl, ?_⟩; replace HB := Aside0.mk (below_step (zB HB.out) hb); (try clear hb); (try clear hb2); (try clear hk); (try clear hi)) | (go_at_call 36; (with_reducible refine (impl_allWithin.calls k _ _ l1 (-1000000) 1000000 true _ ?side1 ?side2 A6.out).mono ?_); (case side1 => exact zC (Kd.C_below HR1.out HB.out)); (case side2 => exact HC1.out); rintro e w10 ⟨rfl, hb⟩; replace HB := Aside0.mk (below_step (zB HB.out) hb); (try clear hb); (try clear hb2); (try clear hk); (try clear hi)))
     go_meet
     case rel => exact ⟨_, (true), (by first | rfl | (simp; done) | (simp [*]; done)), H', ⟨by first | omega | exact Nat.le_refl _⟩, ⟨zB HB.out⟩⟩
    ·rw [if_neg c8] at H; have c8b0 : decide (300 < (l0.length : Int)) = false := decide_eq_false c8; have c8b1 : decide (300 < l0.length) = false := decide_eq_false (by omega); clear c8; (first | rw [c8b0] | rw [c8b1] | (simp only [i64_w, i32_w]; rw [c8b0]) | (rw [c8b2]; simp only [Bool.not_false, Bool.not_true]) | skip); have H' := Aside0.mk H; clear H; go_wp2_with (first | ((with_reducible refine gate_callee (f := 36) rfl ?_); refine goesL_ (some 11) rfl rfl Tryz.func36 (by kernel_rfl) rfl #[.slice A0 l0.length c0, .int .i64 (-1000000), .int .i64 1000000] rfl (by (try simp only [za, zc, zn]); first | done | rfl) ?_; (with_reducible refine (impl_allWithin.calls k _ _ l0 (-1000000) 1000000 true _ ?side1 ?side2 A4.out).mono ?_); (case side1 => exact zC (Kd.C_below HR0.out HB.out)); (case side2 => exact HC0.out); rintro e w11 ⟨rfl, hb⟩; refine ⟨_, rfl, ?_⟩; replace HB := Aside0.mk (below_step (zB HB.out) hb); (try clear hb); (try clear hb2); (try clear hk); (try clear hi)) | (go_at_call 36; (with_reducible refine (impl_allWithin.calls k _ _ l1 (-1000000) 1000000 true _ ?side1 ?side2 A6.out).mono ?_); (case side1 => exact zC (Kd.C_below HR1.out HB.out)); (case side2 => exact HC1.out); rintro e w12 ⟨rfl, hb⟩; replace HB := Aside0.mk (below_step (zB HB.out) hb); (try clear hb); (try clear hb2); (try clear hk); (try clear hi)))
     go_meet
     case rel => exact ⟨_, (decide ((l1.length : Int) > 300)), (by first | rfl | (simp; done) | (simp [*]; done)), H', ⟨by first | omega | exact Nat.le_refl _⟩, ⟨zB HB.out⟩⟩
   ·replace c7 := Bool.eq_false_iff.mpr c7; subst c7; rw [zF] at H; have H' := Aside0.mk H; clear H; go_wp2_with (first | ((with_reducible refine gate_callee (f := 36) rfl ?_); refine goesL_ (some 11) rfl rfl Tryz.func36 (by kernel_rfl) rfl #[.slice A0 l0.length c0, .int .i64 (-1000000), .int .i64 1000000] rfl (by (try simp only [za, zc, zn]); first | done | rfl) ?_; (with_reducible refine (impl_allWithin.calls k _ _ l0 (-1000000) 1000000 true _ ?side1 ?side2 A4.out).mono ?_); (case side1 => exact zC (Kd.C_below HR0.out HB.out)); (case side2 => exact HC0.out); rintro e w13 ⟨rfl, hb⟩; refine ⟨_, rfl, ?_⟩; replace HB := Aside0.mk (below_step (zB HB.out) hb); (try clear hb); (try clear hb2); (try clear hk); (try clear hi)) | (go_at_call 36; (with_reducible refine (impl_allWithin.calls k _ _ l1 (-1000000) 1000000 false _ ?side1 ?side2 A6.out).mono ?_); (case side1 => exact zC (Kd.C_below HR1.out HB.out)); (case side2 => exact HC1.out); rintro e w14 ⟨rfl, hb⟩; replace HB := Aside0.mk (below_step (zB HB.out) hb); (try clear hb); (try clear hb2); (try clear hk); (try clear hi)))
    go_meet
    case rel => exact ⟨_, (true), (by first | rfl | (simp; done) | (simp [*]; done)), H', ⟨by first | omega | exact Nat.le_refl _⟩, ⟨zB HB.out⟩⟩
  ·replace c5 := Bool.eq_false_iff.mpr c5; subst c5; rw [zF] at H; have H' := Aside0.mk H; clear H; go_wp2_with (first | ((with_reducible refine gate_callee (f := 36) rfl ?_); refine goesL_ (some 11) rfl rfl Tryz.func36 (by kernel_rfl) rfl #[.slice A0 l0.length c0, .int .i64 (-1000000), .int .i64 1000000] rfl (by (try simp only [za, zc, zn]); first | done | rfl) ?_; (with_reducible refine (impl_allWithin.calls k _ _ l0 (-1000000) 1000000 false _ ?side1 ?side2 A4.out).mono ?_); (case side1 => exact zC (Kd.C_below HR0.out HB.out)); (case side2 => exact HC0.out); rintro e w15 ⟨rfl, hb⟩; refine ⟨_, rfl, ?_⟩; replace HB := Aside0.mk (below_step (zB HB.out) hb); (try clear hb); (try clear hb2); (try clear hk); (try clear hi)))
   go_meet
   case rel => exact ⟨_, (true), (by first | rfl | (simp; done) | (simp [*]; done)), H', ⟨by first | omega | exact Nat.le_refl _⟩, ⟨zB HB.out⟩⟩
 case rest =>
  clear HC3; obtain ⟨kq, x27_2, rfl, HA, HJ2, HB⟩ := hcut
  cases kq with
  | zero => exact absurd HA.out (by simp [impl_SumsOf.j0])
  | succ kj2 =>
   have H := HA.out; clear HA; simp only [impl_SumsOf.j0] at H
   by_cases c16 : x27_2 = true
   ·subst c16; rw [zT] at H; obtain rfl := Option.some.inj H; go_wp2; go_ret
    exact ⟨_, by first | rfl | (simp [*, errW_none, errW_some] <;> rfl), by first | exact Kd.R_nil _ _ _ _ _ | exact Kd.N_nil _ _ _ _ _ | exact Kd.V_nil _ _ _ _ _ | exact Kd.Q_nil _ _ _ _ _ | exact Kd.S_nil _ _ _ _ _, zB HB.out⟩
   ·replace c16 := Bool.eq_false_iff.mpr c16; subst c16; rw [zF] at H; obtain ⟨y571, hy571⟩ : ∃ y_ : List Int, y_ = (([] : List Int)) := ⟨_, rfl⟩; replace H : (impl_SumsOf.l0 kj2 l1 y571 l0 (l0.length : Int) 0) = some r := by first | (rw [hy571]; with_reducible exact H) | (have H2_ := (Option.bind_some _ _).symm.trans H; rw [hy571]; with_reducible exact H2_) | (have H2_ := (Option.bind_some _ _).symm.trans H; with_reducible exact H2_) | with_reducible exact H | (rw [hy571]; exact H) | exact H
    have Ny571 := Aside0.mk hy571; clear hy571; have H' := Aside0.mk H; clear H; go_wp2_with (first | ((with_reducible refine gate_dst (N := 28) rfl ?_); refine Kd.R_lit (Kd.int .i64) _ 3 ?hg (N := 28) ?hd (xs := ([] : List Int)) (inner := []) (ok := fun _ => True) (okp := fun _ => True) ?hr ?hp (fun _ hk => hk) trivial (Below.refl _ _) (Nat.le_refl _) (by simp) ?_; (case hd => rfl); (case hg => rfl); (case hr => first | (go_simp; done) | (go_simp; rfl)); (case hp => exact (Reps.none _ _)); intro v572 w17 ho18 hb hg_ hnew_; clear hg_ hnew_; (first | rw [← Ny571.out] at ho18 | (simp only [Int.reduceToNat] at ho18; rw [← Ny571.out] at ho18)); have HO573 := Aside0.mk (Kd.R_lower ho18 (zS HB.out)); replace HB := Aside0.mk (below_step (zB HB.out) hb); clear hb ho18)); go_loopg [5, 31] kj2 (fun kq v5 v31 w' => ∃ (x5_2 : List Int) (x31_2 : Int), v31 = .int .i64 x31_2 ∧ Aside0 (impl_SumsOf.l0 kq l1 x5_2 l0 (l0.length : Int) x31_2 = some r) ∧ Aside0 (kq ≤ kj2) ∧ Aside0 (Kd.R (Kd.int .i64) 3 w' w.heap.size (fun _ => True) v5 x5_2) ∧ Aside0 (Below w.heap.size w w'))
    case atStart => exact ⟨(y571), (0), (by first | rfl | (simp; done) | (simp [*]; done)), H', ⟨Nat.le_refl _⟩, ⟨zR HO573.out⟩, ⟨zB HB.out⟩⟩
    case round =>
     clear H'
     try clear c16
     obtain ⟨x5_2, x31_2, rfl, HA, HK2, HO_5, HB⟩ := hrel
     cases gk with
     | zero => exact absurd HA.out (by simp [impl_SumsOf.l0])
     | succ k2 =>
      have H := HA.out; clear HA; simp only [impl_SumsOf.l0] at H
      by_cases c19 : x31_2 < (l0.length : Int)
      ·rw [if_pos c19] at H; have c19b0 : decide (x31_2 < (l0.length : Int)) = true := decide_eq_true c19; clear c19; obtain ⟨c20, H⟩ := zi H; have c20b0 : decide (0 ≤ x31_2) = true := decide_eq_true c20; clear c20; obtain ⟨c21, H⟩ := zi H; have c21b0 : decide (x31_2 < (l0.length : Int)) = true := decide_eq_true c21; clear c21; have H' := Aside0.mk H; clear H; have p577 : 0 ≤ (x31_2 : Int) := of_decide_eq_true (by assumption); have q577 : x31_2 < (l0.length : Int) := of_decide_eq_true (by assumption); obtain ⟨ad577, e577, hx577_0⟩ := Kd.at_int HR0.out x31_2 p577 q577
       cases e577; (try replace hx577_0 := (HB.out.cell (World.block_lt_of_cell? w _ hx577_0)).trans hx577_0); replace p577 := eq_true p577; replace q577 := eq_true q577; go_wp2; go_loopg [5, 37] k2 (fun kq v5 v37 w' => ∃ (x5_3 : List Int) (x37_3 : Int), v37 = .int .i64 x37_3 ∧ Aside0 (impl_SumsOf.l1 kq l1 x5_3 (rd l0 x31_2) l0 (l0.length : Int) x31_2 l1 (l1.length : Int) x37_3 = some r) ∧ Aside0 (kq ≤ k2) ∧ Aside0 (Kd.R (Kd.int .i64) 3 w' w.heap.size (fun _ => True) v5 x5_3) ∧ Aside0 (Below w.heap.size w w'))
       case atStart => exact ⟨(x5_2), (0), (by first | rfl | (simp; done) | (simp [*]; done)), H', ⟨Nat.le_refl _⟩, ⟨zR HO_5.out⟩, ⟨zB HB.out⟩⟩
       case round =>
        clear H'
        try clear c19b0 c20b0 c21b0 hx577_0 p577 q577
        obtain ⟨x5_3, x37_3, rfl, HA, HK3, HO_5, HB⟩ := hrel
        cases gk with
        | zero => exact absurd HA.out (by simp [impl_SumsOf.l1])
        | succ k3 =>
         have H := HA.out; clear HA; simp only [impl_SumsOf.l1] at H
         by_cases c22 : x37_3 < (l1.length : Int)
         ·rw [if_pos c22] at H; have c22b0 : decide (x37_3 < (l1.length : Int)) = true := decide_eq_true c22; clear c22; obtain ⟨c23, H⟩ := zi H; have c23b0 : decide (0 ≤ x37_3) = true := decide_eq_true c23; clear c23; obtain ⟨c24, H⟩ := zi H; have c24b0 : decide (x37_3 < (l1.length : Int)) = true := decide_eq_true c24; clear c24; obtain ⟨c25, H⟩ := zi H; have LMc25 := Aside0.mk c25; clear c25; obtain ⟨y579, Ny579⟩ : ∃ y_ : List Int, Aside0 (y_ = (x5_3 ++ [wrap64 ((rd l0 x31_2) + (rd l1 x37_3))])) := ⟨_, ⟨rfl⟩⟩; (try rw [Option.bind_some] at H); (try rw [← Ny579.out] at H); have H' := Aside0.mk H; clear H; have p578 : 0 ≤ (x37_3 : Int) := of_decide_eq_true (by assumption); have q578 : x37_3 < (l1.length : Int) := of_decide_eq_true (by assumption); obtain ⟨ad578, e578, hx578_0⟩ := Kd.at_int HR1.out x37_3 p578 q578
          cases e578; (try replace hx578_0 := (HB.out.cell (World.block_lt_of_cell? w _ hx578_0)).trans hx578_0); replace p578 := eq_true p578; replace q578 := eq_true q578; go_wp2_with (first | ((with_reducible refine gate_builtin (b := .append) (xs := #[.tmp 41, .tmp 45]) rfl ?_); at_builtin; refine Kd.R_append (Kd.int .i64) (w0 := w) w.heap.size rfl (.tmp 41) (.tmp 45) 27 3 (.int .i64 0) 8 rfl Tryz.underlying27 info3 rfl (by decide) (by omega) u5 x5_3 (wrap64 ((rd l0 x31_2) + (rd l1 x37_3))) [.int .i64 (wrap64 ((rd l0 x31_2) + (rd l1 x37_3)))] (fun _ => True) (fun _ => False) rfl rfl ?aP (fun _ hk => hk.elim) ?aF ?aO ?aB ?aS ?aL ?_; (case aP => exact rfl); (case aB => exact (zB HB.out)); (case aF => exact (fun _ _ => trivial)); (case aO => exact (zR HO_5.out)); (case aS => exact (zS HB.out)); (case aL => have := LMc25.out; omega); intro v580 w26 ho hb hg hat; rw [← Ny579.out] at ho; replace HB := Aside0.mk (hb); have HO581 := Aside0.mk (ho); clear HO_5; clear ho hb hg hat))
          go_roundg k3
          case measure => have := HJ2.out; have := HK2.out; have := HK3.out; omega
          case rel => exact ⟨(y579), (wrap64 (x37_3 + 1)), (by first | rfl | (simp; done) | (simp [*]; done)), H', ⟨by have := HJ2.out; have := HK2.out; have := HK3.out; omega⟩, ⟨zR HO581.out⟩, ⟨zB HB.out⟩⟩
         ·rw [if_neg c22] at H; have c22b0 : decide (x37_3 < (l1.length : Int)) = false := decide_eq_false c22; clear c22; have H' := Aside0.mk H; clear H; go_wp2
          go_roundg k3
          case measure => have := HJ2.out; have := HK2.out; have := HK3.out; omega
          case rel => exact ⟨(x5_3), (wrap64 (x31_2 + 1)), (by first | rfl | (simp; done) | (simp [*]; done)), H', ⟨by have := HJ2.out; have := HK2.out; have := HK3.out; omega⟩, ⟨zR HO_5.out⟩, ⟨zB HB.out⟩⟩
      ·rw [if_neg c19] at H; have c19b0 : decide (x31_2 < (l0.length : Int)) = false := decide_eq_false c19; clear c19; obtain ⟨t574, A27, H⟩ := zb H; obtain rfl := Option.some.inj H; obtain ⟨Ao28, co28, eo28⟩ := Kd.R_slice HO_5.out; subst eo28; go_wp2_with (first | ((with_reducible refine gate_callee (f := 12) rfl ?_); refine goesL_ (some 50) rfl rfl Tryz.func12 (by kernel_rfl) rfl #[.slice Ao28 x5_2.length co28] rfl (by (try simp only [za, zc, zn]); first | done | rfl) ?_; (with_reducible refine (impl_SortList.calls _ _ x5_2 t574 _ ?side1 ?side2 A27.out).mono ?_); (case side1 => repeat (first | exact (Kd.R_reads' HO_5.out).2.2 | (with_reducible refine Kd.C_alloc ?_ _) | (with_reducible refine Kd.C_drewN ?_ _) | (with_reducible refine Kd.C_drew ?_))); (case side2 => exact (Kd.R_reads' HO_5.out).2.1); rintro e w29 ⟨v575, rfl, ho0, hb⟩; refine ⟨_, rfl, ?_⟩; have HO576 := Aside0.mk (Kd.R_lower (Kd.R_new' ho0 (Kd.R_lt (zR HO_5.out))) (zS HB.out)); replace HO_5 := Aside0.mk (Kd.R_elder' (zR HO_5.out) (Kd.R_base ho0) hb); replace HB := Aside0.mk (below_step (zB HB.out) hb); (try clear hb); (try clear hb2); (try clear hk); (try clear hi); (try clear ho0))); go_ret
       exact ⟨_, by first | rfl | (simp [*, errW_none, errW_some] <;> rfl), zR (Kd.R_mono HO576.out (fun _ hk => trivial)), zB HB.out⟩

/-! ### spec_l2All: function 48 -/
def spec_l2All.l0 : Nat → List Int → Int → Option (Bool)
 | 0, _, _ => none
 | k + 1, x0, x3 => if x3 < (x0.length : Int) then (if 0 ≤ x3 then ((spec_l2Small.f (rd x0 x3)).bind fun t583 => (if t583 = true then (spec_l2All.l0 k x0 (wrap64 (x3 + 1))) else (some false))) else (none)) else (some (decide ((x0.length : Int) ≤ 300)))
def spec_l2All.f (k : Nat) (l0 : List Int) : Option (Bool) := spec_l2All.l0 k l0 0
set_option maxHeartbeats 8000000 in
set_option maxRecDepth 100000 in
theorem spec_l2All.calls (k : Nat) (A0 : Option Addr) (c0 : Nat) (l0 : List Int) (r : Bool) (w : World) (hr0 : Kd.C (Kd.int .i64) w A0 l0.length l0) (hc0 : l0.length ≤ c0) (h : spec_l2All.f k l0 = some r) :
  Calls Tryz.prog 48 #[.slice A0 l0.length c0] w fun e w' => e = .returned (.bool r) ∧ Drawn0 w w' := by
 have HR0 := Aside0.mk hr0; have HC0 := Aside0.mk hc0; clear hr0 hc0; have H : (spec_l2All.l0 k l0 0) = some r := h; clear h; have H' := Aside0.mk H; clear H; go_enter Tryz.func48, Tryz.ntmps48; go_wp2; go_loopg [3] k (fun kq v3 w' => ∃ (x3_1 : Int), v3 = .int .i64 x3_1 ∧ Aside0 (spec_l2All.l0 kq l0 x3_1 = some r) ∧ Aside0 (kq ≤ k) ∧ Drawn0 w w')
 case atStart => exact ⟨(0), (by first | rfl | (simp; done) | (simp [*]; done)), H', ⟨Nat.le_refl _⟩, by repeat (first | exact Drawn0.refl _ | apply Drawn0.step)⟩
 case round =>
  clear H'; obtain ⟨x3_1, rfl, HA, HK1, ⟨m1, rfl⟩⟩ := hrel
  cases gk with
  | zero => exact absurd HA.out (by simp [spec_l2All.l0])
  | succ k1 =>
   have H := HA.out; clear HA; simp only [spec_l2All.l0] at H
   by_cases c2 : x3_1 < (l0.length : Int)
   ·rw [if_pos c2] at H; have c2b0 : decide (x3_1 < (l0.length : Int)) = true := decide_eq_true c2; clear c2; obtain ⟨c3, H⟩ := zi H; have c3b0 : decide (0 ≤ x3_1) = true := decide_eq_true c3; clear c3; obtain ⟨t583, A4, H⟩ := zb H; have HU5 := Aside0.mk H; clear H; have p582 : 0 ≤ (x3_1 : Int) := of_decide_eq_true (by assumption); have q582 : x3_1 < (l0.length : Int) := of_decide_eq_true (by assumption); obtain ⟨ad582, e582, hx582_0⟩ := Kd.at_int HR0.out x3_1 p582 q582
    cases e582; replace p582 := eq_true p582; replace q582 := eq_true q582; go_upto_if 15 with (first | ((with_reducible refine gate_callee (f := 46) rfl ?_); refine goesL_ (some 14) rfl rfl Tryz.func46 (by kernel_rfl) rfl #[.int .i64 (rd l0 x3_1)] rfl (by (try simp only [za, zc, zn]); first | done | rfl) ?_; (with_reducible refine (spec_l2Small.calls (rd l0 x3_1) t583 _ A4.out).mono ?_); rintro e w' ⟨rfl, ⟨nd, rfl⟩⟩; refine ⟨_, rfl, ?_⟩))
    (try simp only [Act.put, List.setIfInBounds_toArray, List.set_cons_zero, List.set_cons_succ]); have H := HU5.out; clear HU5
    by_cases c6 : t583 = true
    ·subst c6; rw [zT] at H; have H' := Aside0.mk H; clear H; go_wp2
     go_roundg k1
     case measure => have := HK1.out; omega
     case rel => exact ⟨(wrap64 (x3_1 + 1)), (by first | rfl | (simp; done) | (simp [*]; done)), H', ⟨by have := HK1.out; omega⟩, by repeat (first | exact Drawn0.refl _ | apply Drawn0.step)⟩
    ·replace c6 := Bool.eq_false_iff.mpr c6; subst c6; rw [zF] at H; obtain rfl := Option.some.inj H; go_wp2; go_ret
     exact ⟨by first | rfl | (simp; done) | (simp [*]; done), by repeat (first | exact Drawn0.refl _ | apply Drawn0.step)⟩
   ·rw [if_neg c2] at H; have c2b0 : decide (x3_1 < (l0.length : Int)) = false := decide_eq_false c2; clear c2; obtain rfl := Option.some.inj H; go_wp2; go_ret
    exact ⟨by first | rfl | (simp; done) | (simp [*]; done), by repeat (first | exact Drawn0.refl _ | apply Drawn0.step)⟩

end Go.Proofs.YthednemidaegkaaGreatDoor.PFnLists
