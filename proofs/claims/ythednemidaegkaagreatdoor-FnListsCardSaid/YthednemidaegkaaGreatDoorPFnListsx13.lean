-- Written by a program of this session (a turned copy of the kit's print; see NOTES.md).
import Derived.Test.YthednemidaegkaaGreatDoorPFnListsx0
import Derived.Test.YthednemidaegkaaGreatDoorPFnListsx11
namespace Go.Proofs.YthednemidaegkaaGreatDoor.PFnLists
open Go.RowKit Go.Proofs.YthednemidaegkaaGreatDoorW.PrintWords Go.Proofs.YthednemidaegkaaGreatDoorW.PrintLast Go.Proofs.YthednemidaegkaaGreatDoorW.PrintMore
attribute [local go_sem] max2_int min2_int max_two min_two max_three min_three max_four min_four   -- for this text's walks alone
set_option linter.unusedVariables false
set_option linter.unusedSimpArgs false

/-! ### impl_SplitByte: function 42 -/
def impl_SplitByte.l0 : Nat → ByteArray → Int → List ByteArray → Int → Int → Option (List ByteArray)
 | 0, _, _, _, _, _ => none
 | k + 1, x0, x1, x5, x6, x7 => if x7 < (x0.size : Int) then (if 0 ≤ x7 then (if (bt x0 x7) = x1 then (if 0 ≤ x6 then (if x6 ≤ x7 then (if x7 ≤ (x0.size : Int) then (if x5.length < 8796093022208 then (impl_SplitByte.l0 k x0 x1 (x5 ++ [x0.extract (x6 : Int).toNat (x7 : Int).toNat]) (wrap64 (x7 + 1)) (wrap64 (x7 + 1))) else (none)) else (none)) else (none)) else (none)) else (impl_SplitByte.l0 k x0 x1 x5 x6 (wrap64 (x7 + 1)))) else (none)) else (if 0 ≤ x6 then (if x6 ≤ (x0.size : Int) then (if x5.length < 8796093022208 then (some (x5 ++ [x0.extract (x6 : Int).toNat x0.size])) else (none)) else (none)) else (none))
def impl_SplitByte.f (k : Nat) (a0 : ByteArray) (a1 : Int) : Option (List ByteArray) := impl_SplitByte.l0 k a0 a1 (([] : List ByteArray)) 0 0
set_option maxHeartbeats 8000000 in
set_option maxRecDepth 100000 in
theorem impl_SplitByte.calls (k : Nat) (a0 : ByteArray) (a1 : Int) (r : List ByteArray) (w : World) (h : impl_SplitByte.f k a0 a1 = some r) :
  Calls Tryz.prog 42 #[.string a0, .int .u8 a1] w fun e w' => ∃ v0_ : Value, e = .returned (v0_) ∧ Kd.R Kd.string 9 w' w.heap.size (fun _ => True) v0_ r ∧ Below w.heap.size w w' := by
 have HB := Aside0.mk (Below.refl w.heap.size w); have H : (impl_SplitByte.l0 k a0 a1 (([] : List ByteArray)) 0 0) = some r := h; clear h; obtain ⟨y484, hy484⟩ : ∃ y_ : List ByteArray, y_ = (([] : List ByteArray)) := ⟨_, rfl⟩; replace H : (impl_SplitByte.l0 k a0 a1 y484 0 0) = some r := by first | (rw [hy484]; with_reducible exact H) | (have H2_ := (Option.bind_some _ _).symm.trans H; rw [hy484]; with_reducible exact H2_) | (have H2_ := (Option.bind_some _ _).symm.trans H; with_reducible exact H2_) | with_reducible exact H | (rw [hy484]; exact H) | exact H
 have Ny484 := Aside0.mk hy484; clear hy484; have H' := Aside0.mk H; clear H; go_enter Tryz.func42, Tryz.ntmps42; go_wp2_with (first | ((with_reducible refine gate_dst (N := 8) rfl ?_); refine Kd.R_lit Kd.string _ 9 ?hg (N := 8) ?hd (xs := ([] : List ByteArray)) (inner := []) (ok := fun _ => True) (okp := fun _ => True) ?hr ?hp (fun _ hk => hk) trivial (Below.refl _ _) (Nat.le_refl _) (by simp) ?_; (case hd => rfl); (case hg => rfl); (case hr => first | (go_simp; done) | (go_simp; rfl)); (case hp => exact (Reps.none _ _)); intro v485 w3 ho4 hb hg_ hnew_; clear hg_ hnew_; (first | rw [← Ny484.out] at ho4 | (simp only [Int.reduceToNat] at ho4; rw [← Ny484.out] at ho4)); have HO486 := Aside0.mk (Kd.R_lower ho4 (zS HB.out)); replace HB := Aside0.mk (below_step (zB HB.out) hb); clear hb ho4)); go_loopg [5, 6, 7] k (fun kq v5 v6 v7 w' => ∃ (x5_1 : List ByteArray) (x6_1 : Int) (x7_1 : Int), v6 = .int .i64 x6_1 ∧ v7 = .int .i64 x7_1 ∧ Aside0 (impl_SplitByte.l0 kq a0 a1 x5_1 x6_1 x7_1 = some r) ∧ Aside0 (kq ≤ k) ∧ Aside0 (Kd.R Kd.string 9 w' w.heap.size (fun _ => True) v5 x5_1) ∧ Aside0 (Below w.heap.size w w'))
 case atStart => exact ⟨(y484), (0), (0), (by first | rfl | (simp; done) | (simp [*]; done)), (by first | rfl | (simp; done) | (simp [*]; done)), H', ⟨Nat.le_refl _⟩, ⟨zR HO486.out⟩, ⟨zB HB.out⟩⟩
 case round =>
  clear H'; obtain ⟨x5_1, x6_1, x7_1, rfl, rfl, HA, HK1, HO_5, HB⟩ := hrel
  cases gk with
  | zero => exact absurd HA.out (by simp [impl_SplitByte.l0])
  | succ k1 =>
   have H := HA.out; clear HA; simp only [impl_SplitByte.l0] at H
   by_cases c5 : x7_1 < (a0.size : Int)
   ·rw [if_pos c5] at H; have c5b0 : decide (x7_1 < (a0.size : Int)) = true := decide_eq_true c5; clear c5; obtain ⟨c6, H⟩ := zi H; have c6b0 : decide (0 ≤ x7_1) = true := decide_eq_true c6; clear c6
    by_cases c8 : (bt a0 x7_1) = a1
    ·rw [if_pos c8] at H; have c8b0 : ((bt a0 x7_1) == a1) = true := beq_iff_eq.mpr c8; have c8b1 : ((bt a0 x7_1) != a1) = false := bne_eq_false_iff_eq.mpr c8; clear c8; obtain ⟨c9, H⟩ := zi H; have c9b0 := eq_true c9; have c9b1 : decide (0 ≤ x6_1) = true := decide_eq_true c9; clear c9; obtain ⟨c10, H⟩ := zi H; have c10b0 := eq_true c10; have c10b1 : decide (x6_1 ≤ x7_1) = true := decide_eq_true c10; clear c10; obtain ⟨c11, H⟩ := zi H; have c11b0 := eq_true c11; have c11b1 : decide (x7_1 ≤ (a0.size : Int)) = true := decide_eq_true c11; clear c11; obtain ⟨c12, H⟩ := zi H; have LMc12 := Aside0.mk c12; clear c12; obtain ⟨y487, Ny487⟩ : ∃ y_ : List ByteArray, Aside0 (y_ = (x5_1 ++ [a0.extract (x6_1 : Int).toNat (x7_1 : Int).toNat])) := ⟨_, ⟨rfl⟩⟩; (try rw [Option.bind_some] at H); (try rw [← Ny487.out] at H); have H' := Aside0.mk H; clear H; have p7 : 0 ≤ (x7_1 : Int) := of_decide_eq_true (by assumption); have q7 : x7_1 < (a0.size : Int) := of_decide_eq_true (by assumption); have hx7 := bt_at a0 x7_1; replace p7 := eq_true p7; replace q7 := eq_true q7; go_wp2_with (first | ((with_reducible refine gate_builtin (b := .append) (xs := #[.tmp 20, .tmp 25]) rfl ?_); at_builtin; refine Kd.R_append Kd.string (w0 := w) w.heap.size rfl (.tmp 20) (.tmp 25) 52 9 (.string ⟨#[]⟩) 16 rfl Tryz.underlying52 info9 rfl (by decide) (by omega) u5 x5_1 (a0.extract (x6_1 : Int).toNat (x7_1 : Int).toNat) [.string (a0.extract (x6_1 : Int).toNat (x7_1 : Int).toNat)] (fun _ => True) (fun _ => False) rfl rfl ?aP (fun _ hk => hk.elim) ?aF ?aO ?aB ?aS ?aL ?_; (case aP => exact rfl); (case aB => exact (zB HB.out)); (case aF => exact (fun _ _ => trivial)); (case aO => exact (zR HO_5.out)); (case aS => exact (zS HB.out)); (case aL => have := LMc12.out; omega); intro v488 w13 ho hb hg hat; rw [← Ny487.out] at ho; replace HB := Aside0.mk (hb); have HO489 := Aside0.mk (ho); clear HO_5; clear ho hb hg hat))
     go_roundg k1
     case measure => have := HK1.out; omega
     case rel => exact ⟨(y487), (wrap64 (x7_1 + 1)), (wrap64 (x7_1 + 1)), (by first | rfl | (simp; done) | (simp [*]; done)), (by first | rfl | (simp; done) | (simp [*]; done)), H', ⟨by have := HK1.out; omega⟩, ⟨zR HO489.out⟩, ⟨zB HB.out⟩⟩
    ·rw [if_neg c8] at H; have c8b0 : ((bt a0 x7_1) == a1) = false := beq_eq_false_iff_ne.mpr c8; have c8b1 : ((bt a0 x7_1) != a1) = true := bne_iff_ne.mpr c8; have H' := Aside0.mk H; clear H; have p7 : 0 ≤ (x7_1 : Int) := of_decide_eq_true (by assumption); have q7 : x7_1 < (a0.size : Int) := of_decide_eq_true (by assumption); have hx7 := bt_at a0 x7_1; replace p7 := eq_true p7; replace q7 := eq_true q7; go_wp2
     go_roundg k1
     case measure => have := HK1.out; omega
     case rel => exact ⟨(x5_1), (x6_1), (wrap64 (x7_1 + 1)), (by first | rfl | (simp; done) | (simp [*]; done)), (by first | rfl | (simp; done) | (simp [*]; done)), H', ⟨by have := HK1.out; omega⟩, ⟨zR HO_5.out⟩, ⟨zB HB.out⟩⟩
   ·rw [if_neg c5] at H; have c5b0 : decide (x7_1 < (a0.size : Int)) = false := decide_eq_false c5; clear c5
    by_cases c14 : 0 ≤ x6_1
    ·rw [if_pos c14] at H; have c14b0 := eq_true c14; have c14b1 : decide (0 ≤ x6_1) = true := decide_eq_true c14; clear c14; obtain ⟨c15, H⟩ := zi H; have c15b0 := eq_true c15; have c15b1 : decide (x6_1 ≤ (a0.size : Int)) = true := decide_eq_true c15; clear c15; obtain ⟨c16, H⟩ := zi H; have LMc16 := Aside0.mk c16; clear c16; obtain ⟨y490, Ny490⟩ : ∃ y_ : List ByteArray, Aside0 (y_ = (x5_1 ++ [a0.extract (x6_1 : Int).toNat a0.size])) := ⟨_, ⟨rfl⟩⟩; (try rw [Option.bind_some] at H); (try rw [← Ny490.out] at H); obtain rfl := Option.some.inj H; go_wp2_with (first | ((with_reducible refine gate_builtin (b := .append) (xs := #[.tmp 29, .tmp 33]) rfl ?_); at_builtin; refine Kd.R_append Kd.string (w0 := w) w.heap.size rfl (.tmp 29) (.tmp 33) 52 9 (.string ⟨#[]⟩) 16 rfl Tryz.underlying52 info9 rfl (by decide) (by omega) u5 x5_1 (a0.extract (x6_1 : Int).toNat a0.size) [.string (a0.extract (x6_1 : Int).toNat a0.size)] (fun _ => True) (fun _ => False) rfl rfl ?aP (fun _ hk => hk.elim) ?aF ?aO ?aB ?aS ?aL ?_; (case aP => exact rfl); (case aB => exact (zB HB.out)); (case aF => exact (fun _ _ => trivial)); (case aO => exact (zR HO_5.out)); (case aS => exact (zS HB.out)); (case aL => have := LMc16.out; omega); intro v491 w17 ho hb hg hat; rw [← Ny490.out] at ho; replace HB := Aside0.mk (hb); have HO492 := Aside0.mk (ho); clear HO_5; clear ho hb hg hat)); go_ret
     exact ⟨_, by first | rfl | (simp [*, errW_none, errW_some] <;> rfl), zR HO492.out, zB HB.out⟩
    ·rw [if_neg c14] at H; exact absurd H (by simp)

/-! ### strconv_Itoa_63: function 63 -/
def TabW (w : World) : Prop := Lib.TabIs Tryz.prog w "internal/strconv.uint64pow10" .u64 Lib.pow10Tab
theorem TabW.below {w w' : World} {n : Nat} (h : TabW w) (hn : w.heap.size ≤ n) (hb : Below n w w') : TabW w' := Go.Joins.tab_stays (g := 0) (by kernel_rfl) h hb hn
theorem TabW.zb {w w' : World} (h : TabW w) (hb : Below w.heap.size w w') : TabW w' := h.below (Nat.le_refl _) hb
def strconv_Itoa_63.f (a0 : Int) : Option (ByteArray) := if -9223372036854775808 ≤ a0 ∧ a0 ≤ 9223372036854775807 then some ⟨(Lib.itoa a0).toArray⟩ else none
theorem strconv_Itoa_63.calls (a0 : Int) (r : ByteArray) (w : World) (h : strconv_Itoa_63.f a0 = some r) (hT : TabW w) :
 Calls Tryz.prog 63 #[.int .i64 a0] w fun e w' => e = .returned (.string r) ∧ Below w.heap.size w w' := by
 unfold strconv_Itoa_63.f at h; split at h
 ·rename_i hh; obtain rfl := Option.some.inj h; refine (Tryz.strconv_Itoa a0 hh.1 hh.2 w hT).mono ?_; rintro e w' ⟨rfl, k, os, rfl⟩; refine ⟨rfl, ?_⟩; have h1 : Below w.heap.size w (w.drewN k) := pw_below_drewN (Below.refl _ _) k; exact ⟨h1.os, h1.tape, h1.output, Nat.le_trans h1.size (by rw [Go.Sort.size_grow]; omega), fun k hk => (Go.Sort.heap_grow_old _ _ (Nat.lt_of_lt_of_le hk h1.size)).trans (h1.block k hk)⟩
 ·exact absurd h (by simp)

/-! ### impl_FormatInt: function 50 -/
def impl_FormatInt.f (a0 : Int) : Option (ByteArray) := (strconv_Itoa_63.f a0).bind fun t512 => (some t512)
set_option maxHeartbeats 8000000 in
set_option maxRecDepth 100000 in
theorem impl_FormatInt.calls (a0 : Int) (r : ByteArray) (w : World) (h : impl_FormatInt.f a0 = some r) (hT : TabW w) :
  Calls Tryz.prog 50 #[.int .i64 a0] w fun e w' => e = .returned (.string r) ∧ Below w.heap.size w w' := by
 have HTAB := Aside0.mk hT; clear hT; have HB := Aside0.mk (Below.refl w.heap.size w); have H : ((strconv_Itoa_63.f a0).bind fun t512 => (some t512)) = some r := h; clear h; obtain ⟨t512, A2, H⟩ := zb H; obtain rfl := Option.some.inj H; go_enter Tryz.func50, Tryz.ntmps50; go_wp2_with (first | ((with_reducible refine gate_callee (f := 63) rfl ?_); refine goesL_ (some 4) rfl rfl Tryz.func63 (by kernel_rfl) rfl #[.int .i64 a0] rfl (by (try simp only [za, zc, zn]); first | done | rfl) ?_; (with_reducible refine (strconv_Itoa_63.calls a0 t512 _ A2.out ?sideT).mono ?_); (case sideT => exact HTAB.out.zb (zB HB.out)); rintro e w3 ⟨rfl, hb⟩; refine ⟨_, rfl, ?_⟩; replace HB := Aside0.mk (below_step (zB HB.out) hb); (try clear hb); (try clear hb2); (try clear hk); (try clear hi))); go_ret
 exact ⟨by first | rfl | (simp [*, errW_none, errW_some] <;> rfl), zB HB.out⟩

/-! ### stringslite_HasPrefix: function 92 -/
def stringslite_HasPrefix.f (a0 : ByteArray) (a1 : ByteArray) : Option (Bool) := if (a0.size : Int) ≥ (a1.size : Int) then (if 0 ≤ (a1.size : Int) then (if (a1.size : Int) ≤ (a0.size : Int) then (some ((a0.extract 0 ((a1.size : Int) : Int).toNat).toList == a1.toList)) else (none)) else (none)) else (some false)
set_option maxHeartbeats 8000000 in
set_option maxRecDepth 100000 in
theorem stringslite_HasPrefix.calls (a0 : ByteArray) (a1 : ByteArray) (r : Bool) (w : World) (h : stringslite_HasPrefix.f a0 a1 = some r) :
  Calls Tryz.prog 92 #[.string a0, .string a1] w fun e w' => e = .returned (.bool r) ∧ Drawn0 w w' := by
 have H : (if (a0.size : Int) ≥ (a1.size : Int) then (if 0 ≤ (a1.size : Int) then (if (a1.size : Int) ≤ (a0.size : Int) then (some ((a0.extract 0 ((a1.size : Int) : Int).toNat).toList == a1.toList)) else (none)) else (none)) else (some false)) = some r := h; clear h
 by_cases c3 : (a0.size : Int) ≥ (a1.size : Int)
 ·rw [if_pos c3] at H; have c3b0 : decide ((a1.size : Int) ≤ (a0.size : Int)) = true := decide_eq_true c3; have c3b1 : decide (a1.size ≤ a0.size) = true := decide_eq_true (Int.ofNat_le.mp c3); clear c3; obtain ⟨c4, H⟩ := zi H; have c4b0 := eq_true c4; have c4b1 : decide (0 ≤ (a1.size : Int)) = true := decide_eq_true c4; clear c4; obtain ⟨c5, H⟩ := zi H; have c5b0 := eq_true c5; have c5b1 : decide ((a1.size : Int) ≤ (a0.size : Int)) = true := decide_eq_true c5; clear c5; obtain rfl := Option.some.inj H; go_enter Tryz.func92, Tryz.ntmps92; go_wp2; go_ret
  exact ⟨by first | rfl | (simp; done) | (simp [*]; done), by repeat (first | exact Drawn0.refl _ | apply Drawn0.step)⟩
 ·rw [if_neg c3] at H; have c3b0 : decide ((a1.size : Int) ≤ (a0.size : Int)) = false := decide_eq_false c3; have c3b1 : decide (a1.size ≤ a0.size) = false := decide_eq_false (fun h => c3 (Int.ofNat_le.mpr h)); clear c3; obtain rfl := Option.some.inj H; go_enter Tryz.func92, Tryz.ntmps92; go_wp2; go_ret
  exact ⟨by first | rfl | (simp; done) | (simp [*]; done), by repeat (first | exact Drawn0.refl _ | apply Drawn0.step)⟩

/-! ### stringslite_TrimPrefix: function 87 -/
def stringslite_TrimPrefix.f (a0 : ByteArray) (a1 : ByteArray) : Option (ByteArray) := (stringslite_HasPrefix.f a0 a1).bind fun t513 => (if t513 = true then (if 0 ≤ (a1.size : Int) then (if (a1.size : Int) ≤ (a0.size : Int) then (some (a0.extract ((a1.size : Int) : Int).toNat a0.size)) else (none)) else (none)) else (some a0))
set_option maxHeartbeats 8000000 in
set_option maxRecDepth 100000 in
theorem stringslite_TrimPrefix.calls (a0 : ByteArray) (a1 : ByteArray) (r : ByteArray) (w : World) (h : stringslite_TrimPrefix.f a0 a1 = some r) :
  Calls Tryz.prog 87 #[.string a0, .string a1] w fun e w' => e = .returned (.string r) ∧ Drawn0 w w' := by
 have H : ((stringslite_HasPrefix.f a0 a1).bind fun t513 => (if t513 = true then (if 0 ≤ (a1.size : Int) then (if (a1.size : Int) ≤ (a0.size : Int) then (some (a0.extract ((a1.size : Int) : Int).toNat a0.size)) else (none)) else (none)) else (some a0))) = some r := h; clear h; obtain ⟨t513, A3, H⟩ := zb H; have HU4 := Aside0.mk H; clear H; go_enter Tryz.func87, Tryz.ntmps87; go_upto_if 7 with (first | ((with_reducible refine gate_callee (f := 92) rfl ?_); refine goesL_ (some 7) rfl rfl Tryz.func92 (by kernel_rfl) rfl #[.string a0, .string a1] rfl (by (try simp only [za, zc, zn]); first | done | rfl) ?_; (with_reducible refine (stringslite_HasPrefix.calls a0 a1 t513 _ A3.out).mono ?_); rintro e w' ⟨rfl, ⟨nd, rfl⟩⟩; refine ⟨_, rfl, ?_⟩))
 (try simp only [Act.put, List.setIfInBounds_toArray, List.set_cons_zero, List.set_cons_succ]); have H := HU4.out; clear HU4
 by_cases c5 : t513 = true
 ·subst c5; rw [zT] at H; obtain ⟨c6, H⟩ := zi H; have c6b0 := eq_true c6; have c6b1 : decide (0 ≤ (a1.size : Int)) = true := decide_eq_true c6; clear c6; obtain ⟨c7, H⟩ := zi H; have c7b0 := eq_true c7; have c7b1 : decide ((a1.size : Int) ≤ (a0.size : Int)) = true := decide_eq_true c7; clear c7; obtain rfl := Option.some.inj H; go_wp2; go_ret
  exact ⟨by first | rfl | (simp; done) | (simp [*]; done), by repeat (first | exact Drawn0.refl _ | apply Drawn0.step)⟩
 ·replace c5 := Bool.eq_false_iff.mpr c5; subst c5; rw [zF] at H; obtain rfl := Option.some.inj H; go_wp2; go_ret
  exact ⟨by first | rfl | (simp; done) | (simp [*]; done), by repeat (first | exact Drawn0.refl _ | apply Drawn0.step)⟩

/-! ### strings_TrimPrefix: function 76 -/
def strings_TrimPrefix.f (a0 : ByteArray) (a1 : ByteArray) : Option (ByteArray) := (stringslite_TrimPrefix.f a0 a1).bind fun t514 => (some t514)
set_option maxHeartbeats 8000000 in
set_option maxRecDepth 100000 in
theorem strings_TrimPrefix.calls (a0 : ByteArray) (a1 : ByteArray) (r : ByteArray) (w : World) (h : strings_TrimPrefix.f a0 a1 = some r) :
  Calls Tryz.prog 76 #[.string a0, .string a1] w fun e w' => e = .returned (.string r) ∧ Drawn0 w w' := by
 have H : ((stringslite_TrimPrefix.f a0 a1).bind fun t514 => (some t514)) = some r := h; clear h; obtain ⟨t514, A3, H⟩ := zb H; obtain rfl := Option.some.inj H; go_enter Tryz.func76, Tryz.ntmps76; go_wp2_with (first | ((with_reducible refine gate_callee (f := 87) rfl ?_); refine goesL_ (some 7) rfl rfl Tryz.func87 (by kernel_rfl) rfl #[.string a0, .string a1] rfl (by (try simp only [za, zc, zn]); first | done | rfl) ?_; (with_reducible refine (stringslite_TrimPrefix.calls a0 a1 t514 _ A3.out).mono ?_); rintro e w' ⟨rfl, ⟨nd, rfl⟩⟩; refine ⟨_, rfl, ?_⟩)); go_ret
 exact ⟨by first | rfl | (simp; done) | (simp [*]; done), by repeat (first | exact Drawn0.refl _ | apply Drawn0.step)⟩

/-! ### impl_parsed: function 59 -/
mutual
def impl_parsed.j0 : Nat → ByteArray → ByteArray → Bool → Option (Int × Bool)
 | 0, _, _, _ => none
 | k + 1, x0, x6, x19 => if x19 = true then (some (0, false)) else (impl_parsed.l0 k x0 x6 0 0)
def impl_parsed.l0 : Nat → ByteArray → ByteArray → Int → Int → Option (Int × Bool)
 | 0, _, _, _, _ => none
 | k + 1, x0, x6, x7, x8 => if x8 < (x6.size : Int) then (if 0 ≤ x8 then (if (bt x6 x8) < 48 then (some (0, false)) else (if (bt x6 x8) > 57 then (some (0, false)) else (impl_parsed.l0 k x0 x6 (wrap64 ((wrap64 (10 * x7)) + (((bt x6 x8) - 48) % 256))) (wrap64 (x8 + 1))))) else (none)) else (if (x6.size : Int) < (x0.size : Int) then ((impl_FormatInt.f (wrap64 (-x7))).bind fun t516 => (if t516.toList = x0.toList then (some (wrap64 (-x7), true)) else (some (0, false)))) else ((impl_FormatInt.f x7).bind fun t517 => (if t517.toList = x0.toList then (some (x7, true)) else (some (0, false)))))
end
def impl_parsed.f (k : Nat) (a0 : ByteArray) (a1 : Int) : Option (Int × Bool) := (strings_TrimPrefix.f a0 (⟨#[45]⟩ : ByteArray)).bind fun t515 => (if (t515.size : Int) = 0 then (impl_parsed.j0 k a0 t515 true) else (impl_parsed.j0 k a0 t515 (decide ((t515.size : Int) > a1))))
set_option maxHeartbeats 8000000 in
set_option maxRecDepth 100000 in
theorem impl_parsed.calls (k : Nat) (a0 : ByteArray) (a1 : Int) (r1 : Int) (r2 : Bool) (w : World) (h : impl_parsed.f k a0 a1 = some (r1, r2)) (hT : TabW w) :
  Calls Tryz.prog 59 #[.string a0, .int .i64 a1] w fun e w' => e = .returned (.tuple #[.int .i64 r1, .bool r2]) ∧ Below w.heap.size w w' := by
 have HTAB := Aside0.mk hT; clear hT; have HB := Aside0.mk (Below.refl w.heap.size w); have H : ((strings_TrimPrefix.f a0 (⟨#[45]⟩ : ByteArray)).bind fun t515 => (if (t515.size : Int) = 0 then (impl_parsed.j0 k a0 t515 true) else (impl_parsed.j0 k a0 t515 (decide ((t515.size : Int) > a1))))) = some (r1, r2) := h; clear h; obtain ⟨t515, A3, H⟩ := zb H; have HC4 := Aside0.mk H; clear H; go_enter Tryz.func59, Tryz.ntmps59; go_upto_region 2 with (first | ((with_reducible refine gate_callee (f := 76) rfl ?_); refine goesL_ (some 10) rfl rfl Tryz.func76 (by kernel_rfl) rfl #[.string a0, .string (⟨#[45]⟩ : ByteArray)] rfl (by (try simp only [za, zc, zn]); first | done | rfl) ?_; (with_reducible refine (strings_TrimPrefix.calls a0 (⟨#[45]⟩ : ByteArray) t515 _ A3.out).mono ?_); rintro e w' ⟨rfl, ⟨nd, rfl⟩⟩; refine ⟨_, rfl, ?_⟩))
 (try simp only [Act.put, List.setIfInBounds_toArray, List.set_cons_zero, List.set_cons_succ]); go_cut [19] (fun v19 wc => ∃ (kq : Nat) (x19_3 : Bool), v19 = .bool x19_3 ∧ Aside0 (impl_parsed.j0 kq a0 t515 x19_3 = some (r1, r2)) ∧ Aside0 (kq ≤ k) ∧ Aside0 (Below w.heap.size w wc))
 case first =>
  have H := HC4.out; clear HC4
  by_cases c5 : (t515.size : Int) = 0
  ·rw [if_pos c5] at H; have c5b0 : ((t515.size : Int) == 0) = true := beq_iff_eq.mpr c5; have c5b1 : ((t515.size : Int) != 0) = false := bne_eq_false_iff_eq.mpr c5; clear c5; (first | rw [c5b0] | rw [c5b1] | (simp only [i64_w, i32_w]; rw [c5b0]) | (rw [c5b2]; simp only [Bool.not_false, Bool.not_true]) | skip); have H' := Aside0.mk H; clear H; go_wp2
   go_meet
   case rel => exact ⟨_, (true), (by first | rfl | (simp; done) | (simp [*]; done)), H', ⟨by first | omega | exact Nat.le_refl _⟩, ⟨zB HB.out⟩⟩
  ·rw [if_neg c5] at H; have c5b0 : ((t515.size : Int) == 0) = false := beq_eq_false_iff_ne.mpr c5; have c5b1 : ((t515.size : Int) != 0) = true := bne_iff_ne.mpr c5; (first | rw [c5b0] | rw [c5b1] | (simp only [i64_w, i32_w]; rw [c5b0]) | (rw [c5b2]; simp only [Bool.not_false, Bool.not_true]) | skip); have H' := Aside0.mk H; clear H; go_wp2
   go_meet
   case rel => exact ⟨_, (decide ((t515.size : Int) > a1)), (by first | rfl | (simp; done) | (simp [*]; done)), H', ⟨by first | omega | exact Nat.le_refl _⟩, ⟨zB HB.out⟩⟩
 case rest =>
  clear HC4; obtain ⟨kq, x19_3, rfl, HA, HJ3, HB⟩ := hcut
  cases kq with
  | zero => exact absurd HA.out (by simp [impl_parsed.j0])
  | succ kj3 =>
   have H := HA.out; clear HA; simp only [impl_parsed.j0] at H
   by_cases c6 : x19_3 = true
   ·subst c6; rw [zT] at H; simp only [Option.some.injEq, Prod.mk.injEq] at H; obtain ⟨rfl, rfl⟩ := H; go_wp2; go_ret2; exact ⟨by first | rfl | (simp [*, errW_none, errW_some] <;> rfl), zB HB.out⟩
   ·replace c6 := Bool.eq_false_iff.mpr c6; subst c6; rw [zF] at H; have H' := Aside0.mk H; clear H; go_wp2; go_loopg [7, 8] kj3 (fun kq v7 v8 w' => ∃ (x7_2 : Int) (x8_2 : Int), v7 = .int .i64 x7_2 ∧ v8 = .int .i64 x8_2 ∧ Aside0 (impl_parsed.l0 kq a0 t515 x7_2 x8_2 = some (r1, r2)) ∧ Aside0 (kq ≤ kj3) ∧ Aside0 (Below w.heap.size w w'))
    case atStart => exact ⟨(0), (0), (by first | rfl | (simp; done) | (simp [*]; done)), (by first | rfl | (simp; done) | (simp [*]; done)), H', ⟨Nat.le_refl _⟩, ⟨zB HB.out⟩⟩
    case round =>
     clear H'
     try clear c6
     obtain ⟨x7_2, x8_2, rfl, rfl, HA, HK2, HB⟩ := hrel
     cases gk with
     | zero => exact absurd HA.out (by simp [impl_parsed.l0])
     | succ k2 =>
      have H := HA.out; clear HA; simp only [impl_parsed.l0] at H
      by_cases c7 : x8_2 < (t515.size : Int)
      ·rw [if_pos c7] at H; have c7b0 : decide (x8_2 < (t515.size : Int)) = true := decide_eq_true c7; clear c7; obtain ⟨c8, H⟩ := zi H; have c8b0 : decide (0 ≤ x8_2) = true := decide_eq_true c8; clear c8
       by_cases c10 : (bt t515 x8_2) < 48
       ·rw [if_pos c10] at H; have c10b0 : decide ((bt t515 x8_2) < 48) = true := decide_eq_true c10; clear c10; simp only [Option.some.injEq, Prod.mk.injEq] at H; obtain ⟨rfl, rfl⟩ := H; have p9 : 0 ≤ (x8_2 : Int) := of_decide_eq_true (by assumption); have q9 : x8_2 < (t515.size : Int) := of_decide_eq_true (by assumption); have hx9 := bt_at t515 x8_2; replace p9 := eq_true p9; replace q9 := eq_true q9; go_wp2; go_ret2; exact ⟨by first | rfl | (simp [*, errW_none, errW_some] <;> rfl), zB HB.out⟩
       ·rw [if_neg c10] at H; have c10b0 : decide ((bt t515 x8_2) < 48) = false := decide_eq_false c10; clear c10
        by_cases c12 : (bt t515 x8_2) > 57
        ·rw [if_pos c12] at H; have c12b0 : decide (57 < (bt t515 x8_2)) = true := decide_eq_true c12; clear c12; simp only [Option.some.injEq, Prod.mk.injEq] at H; obtain ⟨rfl, rfl⟩ := H; have p9 : 0 ≤ (x8_2 : Int) := of_decide_eq_true (by assumption); have q9 : x8_2 < (t515.size : Int) := of_decide_eq_true (by assumption); have hx9 := bt_at t515 x8_2; replace p9 := eq_true p9; replace q9 := eq_true q9; have p11 : 0 ≤ (x8_2 : Int) := of_decide_eq_true (by assumption); have q11 : x8_2 < (t515.size : Int) := of_decide_eq_true (by assumption); have hx11 := bt_at t515 x8_2; replace p11 := eq_true p11; replace q11 := eq_true q11; go_wp2; go_ret2; exact ⟨by first | rfl | (simp [*, errW_none, errW_some] <;> rfl), zB HB.out⟩
        ·rw [if_neg c12] at H; have c12b0 : decide (57 < (bt t515 x8_2)) = false := decide_eq_false c12; clear c12; have H' := Aside0.mk H; clear H; have p9 : 0 ≤ (x8_2 : Int) := of_decide_eq_true (by assumption); have q9 : x8_2 < (t515.size : Int) := of_decide_eq_true (by assumption); have hx9 := bt_at t515 x8_2; replace p9 := eq_true p9; replace q9 := eq_true q9; have p11 : 0 ≤ (x8_2 : Int) := of_decide_eq_true (by assumption); have q11 : x8_2 < (t515.size : Int) := of_decide_eq_true (by assumption); have hx11 := bt_at t515 x8_2; replace p11 := eq_true p11; replace q11 := eq_true q11; have p13 : 0 ≤ (x8_2 : Int) := of_decide_eq_true (by assumption); have q13 : x8_2 < (t515.size : Int) := of_decide_eq_true (by assumption); have hx13 := bt_at t515 x8_2; replace p13 := eq_true p13; replace q13 := eq_true q13; go_wp2
         go_roundg k2
         case measure => have := HJ3.out; have := HK2.out; omega
         case rel => exact ⟨(wrap64 ((wrap64 (10 * x7_2)) + (((bt t515 x8_2) - 48) % 256))), (wrap64 (x8_2 + 1)), (by first | rfl | (simp; done) | (simp [*]; done)), (by first | rfl | (simp; done) | (simp [*]; done)), H', ⟨by have := HJ3.out; have := HK2.out; omega⟩, ⟨zB HB.out⟩⟩
      ·rw [if_neg c7] at H; have c7b0 : decide (x8_2 < (t515.size : Int)) = false := decide_eq_false c7; clear c7
       by_cases c14 : (t515.size : Int) < (a0.size : Int)
       ·rw [if_pos c14] at H; have c14b0 : decide ((t515.size : Int) < (a0.size : Int)) = true := decide_eq_true c14; have c14b1 : decide (t515.size < a0.size) = true := decide_eq_true (Int.ofNat_lt.mp c14); clear c14; obtain ⟨t516, A15, H⟩ := zb H; have HU16 := Aside0.mk H; clear H; go_upto_if 54 with (first | ((with_reducible refine gate_callee (f := 50) rfl ?_); refine goesL_ (some 52) rfl rfl Tryz.func50 (by kernel_rfl) rfl #[.int .i64 (wrap64 (-x7_2))] rfl (by (try simp only [za, zc, zn]); first | done | rfl) ?_; (with_reducible refine (impl_FormatInt.calls (wrap64 (-x7_2)) t516 _ A15.out ?sideT).mono ?_); (case sideT => exact HTAB.out.zb (zB HB.out)); rintro e w17 ⟨rfl, hb⟩; refine ⟨_, rfl, ?_⟩; replace HB := Aside0.mk (below_step (zB HB.out) hb); (try clear hb); (try clear hb2); (try clear hk); (try clear hi)))
        (try simp only [Act.put, List.setIfInBounds_toArray, List.set_cons_zero, List.set_cons_succ]); have H := HU16.out; clear HU16
        by_cases c18 : t516.toList = a0.toList
        ·rw [if_pos c18] at H; have c18b0 : (t516.toList == a0.toList) = true := beq_iff_eq.mpr c18; have c18b1 : (t516.toList != a0.toList) = false := bne_eq_false_iff_eq.mpr c18; clear c18; (first | rw [c18b0] | rw [c18b1] | (simp only [i64_w, i32_w]; rw [c18b0]) | (rw [c18b2]; simp only [Bool.not_false, Bool.not_true]) | skip); simp only [Option.some.injEq, Prod.mk.injEq] at H; obtain ⟨rfl, rfl⟩ := H; go_wp2; go_ret2; exact ⟨by first | rfl | (simp [*, errW_none, errW_some] <;> rfl), zB HB.out⟩
        ·rw [if_neg c18] at H; have c18b0 : (t516.toList == a0.toList) = false := beq_eq_false_iff_ne.mpr c18; have c18b1 : (t516.toList != a0.toList) = true := bne_iff_ne.mpr c18; (first | rw [c18b0] | rw [c18b1] | (simp only [i64_w, i32_w]; rw [c18b0]) | (rw [c18b2]; simp only [Bool.not_false, Bool.not_true]) | skip); simp only [Option.some.injEq, Prod.mk.injEq] at H; obtain ⟨rfl, rfl⟩ := H; go_wp2; go_ret2; exact ⟨by first | rfl | (simp [*, errW_none, errW_some] <;> rfl), zB HB.out⟩
       ·rw [if_neg c14] at H; have c14b0 : decide ((t515.size : Int) < (a0.size : Int)) = false := decide_eq_false c14; have c14b1 : decide (t515.size < a0.size) = false := decide_eq_false (fun h => c14 (Int.ofNat_lt.mpr h)); clear c14; obtain ⟨t517, A19, H⟩ := zb H; have HU20 := Aside0.mk H; clear H; go_upto_if 54 with (first | ((with_reducible refine gate_callee (f := 50) rfl ?_); refine goesL_ (some 52) rfl rfl Tryz.func50 (by kernel_rfl) rfl #[.int .i64 x7_2] rfl (by (try simp only [za, zc, zn]); first | done | rfl) ?_; (with_reducible refine (impl_FormatInt.calls x7_2 t517 _ A19.out ?sideT).mono ?_); (case sideT => exact HTAB.out.zb (zB HB.out)); rintro e w21 ⟨rfl, hb⟩; refine ⟨_, rfl, ?_⟩; replace HB := Aside0.mk (below_step (zB HB.out) hb); (try clear hb); (try clear hb2); (try clear hk); (try clear hi)))
        (try simp only [Act.put, List.setIfInBounds_toArray, List.set_cons_zero, List.set_cons_succ]); have H := HU20.out; clear HU20
        by_cases c22 : t517.toList = a0.toList
        ·rw [if_pos c22] at H; have c22b0 : (t517.toList == a0.toList) = true := beq_iff_eq.mpr c22; have c22b1 : (t517.toList != a0.toList) = false := bne_eq_false_iff_eq.mpr c22; clear c22; (first | rw [c22b0] | rw [c22b1] | (simp only [i64_w, i32_w]; rw [c22b0]) | (rw [c22b2]; simp only [Bool.not_false, Bool.not_true]) | skip); simp only [Option.some.injEq, Prod.mk.injEq] at H; obtain ⟨rfl, rfl⟩ := H; go_wp2; go_ret2; exact ⟨by first | rfl | (simp [*, errW_none, errW_some] <;> rfl), zB HB.out⟩
        ·rw [if_neg c22] at H; have c22b0 : (t517.toList == a0.toList) = false := beq_eq_false_iff_ne.mpr c22; have c22b1 : (t517.toList != a0.toList) = true := bne_iff_ne.mpr c22; (first | rw [c22b0] | rw [c22b1] | (simp only [i64_w, i32_w]; rw [c22b0]) | (rw [c22b2]; simp only [Bool.not_false, Bool.not_true]) | skip); simp only [Option.some.injEq, Prod.mk.injEq] at H; obtain ⟨rfl, rfl⟩ := H; go_wp2; go_ret2; exact ⟨by first | rfl | (simp [*, errW_none, errW_some] <;> rfl), zB HB.out⟩

/-! ### impl_ParseInt: function 43 -/
def impl_ParseInt.f (k : Nat) (a0 : ByteArray) : Option (Int × Bool) := (impl_parsed.f k a0 12).bind fun bt518 => (some (bt518.1, bt518.2))
set_option maxHeartbeats 8000000 in
set_option maxRecDepth 100000 in
theorem impl_ParseInt.calls (k : Nat) (a0 : ByteArray) (r1 : Int) (r2 : Bool) (w : World) (h : impl_ParseInt.f k a0 = some (r1, r2)) (hT : TabW w) :
  Calls Tryz.prog 43 #[.string a0] w fun e w' => e = .returned (.tuple #[.int .i64 r1, .bool r2]) ∧ Below w.heap.size w w' := by
 have HTAB := Aside0.mk hT; clear hT; have HB := Aside0.mk (Below.refl w.heap.size w); have H : ((impl_parsed.f k a0 12).bind fun bt518 => (some (bt518.1, bt518.2))) = some (r1, r2) := h; clear h; obtain ⟨⟨t518, t519⟩, A2, H⟩ := zb H; (try dsimp only at H); simp only [Option.some.injEq, Prod.mk.injEq] at H; obtain ⟨rfl, rfl⟩ := H; go_enter Tryz.func43, Tryz.ntmps43; go_wp2_with (first | ((with_reducible refine gate_callee (f := 59) rfl ?_); refine goesL_ (some 5) rfl rfl Tryz.func59 (by kernel_rfl) rfl #[.string a0, .int .i64 12] rfl (by (try simp only [za, zc, zn]); first | done | rfl) ?_; (with_reducible refine (impl_parsed.calls k a0 12 t518 t519 _ A2.out ?sideT).mono ?_); (case sideT => exact HTAB.out.zb (zB HB.out)); rintro e w3 ⟨rfl, hb⟩; refine ⟨_, rfl, ?_⟩; replace HB := Aside0.mk (below_step (zB HB.out) hb); (try clear hb); (try clear hb2); (try clear hk); (try clear hi))); go_ret2; exact ⟨by first | rfl | (simp [*, errW_none, errW_some] <;> rfl), zB HB.out⟩

/-! ### impl_ParseList: function 14 -/
def impl_ParseList.l0 : Nat → List Int → List ByteArray → Int → Int → Option (List Int × Bool)
 | 0, _, _, _, _ => none
 | k + 1, x4, x14, x15, x16 => if x16 < x15 then (if 0 ≤ x16 then (if x16 < (x14.length : Int) then ((impl_ParseInt.f k (rdOf ByteArray.empty x14 x16)).bind fun bt527 => (if bt527.2 = true then (if x4.length < 17592186044416 then (impl_ParseList.l0 k (x4 ++ [bt527.1]) x14 x15 (wrap64 (x16 + 1))) else (none)) else (some (([] : List Int), false)))) else (none)) else (none)) else (some (x4, true))
def impl_ParseList.f (k : Nat) (a0 : ByteArray) : Option (List Int × Bool) := (some (([] : List Int) : List Int)).bind fun y520 => (if a0.toList = ([110, 111, 110, 101] : List UInt8) then (some (y520, true)) else ((impl_SplitByte.f k a0 44).bind fun t523 => (impl_ParseList.l0 k y520 t523 (t523.length : Int) 0)))
set_option maxHeartbeats 8000000 in
set_option maxRecDepth 100000 in
theorem impl_ParseList.calls (k : Nat) (a0 : ByteArray) (r1 : List Int) (r2 : Bool) (w : World) (h : impl_ParseList.f k a0 = some (r1, r2)) (hT : TabW w) :
  Calls Tryz.prog 14 #[.string a0] w fun e w' => ∃ v0_ : Value, e = .returned (.tuple #[v0_, .bool r2]) ∧ Kd.R (Kd.int .i64) 3 w' w.heap.size (fun _ => True) v0_ r1 ∧ Below w.heap.size w w' := by
 have HTAB := Aside0.mk hT; clear hT; have HB := Aside0.mk (Below.refl w.heap.size w); have H : ((some (([] : List Int) : List Int)).bind fun y520 => (if a0.toList = ([110, 111, 110, 101] : List UInt8) then (some (y520, true)) else ((impl_SplitByte.f k a0 44).bind fun t523 => (impl_ParseList.l0 k y520 t523 (t523.length : Int) 0)))) = some (r1, r2) := h; clear h; obtain ⟨y520, hy520⟩ : ∃ y_ : List Int, y_ = (([] : List Int)) := ⟨_, rfl⟩; replace H : (if a0.toList = ([110, 111, 110, 101] : List UInt8) then (some (y520, true)) else ((impl_SplitByte.f k a0 44).bind fun t523 => (impl_ParseList.l0 k y520 t523 (t523.length : Int) 0))) = some (r1, r2) := by first | (rw [hy520]; with_reducible exact H) | (have H2_ := (Option.bind_some _ _).symm.trans H; rw [hy520]; with_reducible exact H2_) | (have H2_ := (Option.bind_some _ _).symm.trans H; with_reducible exact H2_) | with_reducible exact H | (rw [hy520]; exact H) | exact H
 have Ny520 := Aside0.mk hy520; clear hy520; have HU2 := Aside0.mk H; clear H; go_enter Tryz.func14, Tryz.ntmps14; go_upto_if 11 with (first | ((with_reducible refine gate_dst (N := 9) rfl ?_); refine Kd.R_lit (Kd.int .i64) _ 3 ?hg (N := 9) ?hd (xs := ([] : List Int)) (inner := []) (ok := fun _ => True) (okp := fun _ => True) ?hr ?hp (fun _ hk => hk) trivial (Below.refl _ _) (Nat.le_refl _) (by simp) ?_; (case hd => rfl); (case hg => rfl); (case hr => first | (go_simp; done) | (go_simp; rfl)); (case hp => exact (Reps.none _ _)); intro v521 w3 ho4 hb hg_ hnew_; clear hg_ hnew_; (first | rw [← Ny520.out] at ho4 | (simp only [Int.reduceToNat] at ho4; rw [← Ny520.out] at ho4)); have HO522 := Aside0.mk (Kd.R_lower ho4 (zS HB.out)); replace HB := Aside0.mk (below_step (zB HB.out) hb); clear hb ho4))
 (try simp only [Act.put, List.setIfInBounds_toArray, List.set_cons_zero, List.set_cons_succ]); have H := HU2.out; clear HU2
 by_cases c5 : a0.toList = ([110, 111, 110, 101] : List UInt8)
 ·rw [if_pos c5] at H; have c5b0 : (a0.toList == ([110, 111, 110, 101] : List UInt8)) = true := beq_iff_eq.mpr c5; have c5b1 : (a0.toList != ([110, 111, 110, 101] : List UInt8)) = false := bne_eq_false_iff_eq.mpr c5; clear c5; (first | rw [c5b0] | rw [c5b1] | (simp only [i64_w, i32_w]; rw [c5b0]) | (rw [c5b2]; simp only [Bool.not_false, Bool.not_true]) | skip); simp only [Option.some.injEq, Prod.mk.injEq] at H; obtain ⟨rfl, rfl⟩ := H; go_wp2; go_ret2; exact ⟨_, by first | rfl | (simp [*, errW_none, errW_some] <;> rfl), zR HO522.out, zB HB.out⟩
 ·rw [if_neg c5] at H; have c5b0 : (a0.toList == ([110, 111, 110, 101] : List UInt8)) = false := beq_eq_false_iff_ne.mpr c5; have c5b1 : (a0.toList != ([110, 111, 110, 101] : List UInt8)) = true := bne_iff_ne.mpr c5; (first | rw [c5b0] | rw [c5b1] | (simp only [i64_w, i32_w]; rw [c5b0]) | (rw [c5b2]; simp only [Bool.not_false, Bool.not_true]) | skip); obtain ⟨t523, A6, H⟩ := zb H; have H' := Aside0.mk H; clear H; go_wp2_with (first | ((with_reducible refine gate_callee (f := 42) rfl ?_); refine goesL_ (some 14) rfl rfl Tryz.func42 (by kernel_rfl) rfl #[.string a0, .int .u8 44] rfl (by (try simp only [za, zc, zn]); first | done | rfl) ?_; (with_reducible refine (impl_SplitByte.calls k a0 44 t523 _ A6.out).mono ?_); rintro e w7 ⟨v524, rfl, ho0, hb⟩; refine ⟨_, rfl, ?_⟩; replace HO522 := Aside0.mk (Kd.R_below (zR HO522.out) hb); have HO525 := Aside0.mk (Kd.R_lower ho0 (zS HB.out)); replace HB := Aside0.mk (below_step (zB HB.out) hb); (try clear hb); (try clear hb2); (try clear hk); (try clear hi); (try clear ho0); obtain ⟨Ao8, co8, eo8⟩ := Kd.R_slice HO525.out; subst eo8)); go_loopg [4, 16] k (fun kq v4 v16 w' => ∃ (x4_1 : List Int) (x16_1 : Int), v16 = .int .i64 x16_1 ∧ Aside0 (impl_ParseList.l0 kq x4_1 t523 (t523.length : Int) x16_1 = some (r1, r2)) ∧ Aside0 (kq ≤ k) ∧ Aside0 (Kd.R (Kd.int .i64) 3 w' w.heap.size (fun _ => True) v4 x4_1) ∧ Aside0 (Kd.R Kd.string 9 w' w.heap.size (fun _ => True) (.slice Ao8 t523.length co8) t523) ∧ Aside0 (Below w.heap.size w w'))
  case atStart => exact ⟨(y520), (0), (by first | rfl | (simp; done) | (simp [*]; done)), H', ⟨Nat.le_refl _⟩, ⟨zR HO522.out⟩, ⟨zR HO525.out⟩, ⟨zB HB.out⟩⟩
  case round =>
   clear H'
   try clear c5 c5b0 c5b1
   obtain ⟨x4_1, x16_1, rfl, HA, HK1, HO_4, HO_14, HB⟩ := hrel
   cases gk with
   | zero => exact absurd HA.out (by simp [impl_ParseList.l0])
   | succ k1 =>
    have H := HA.out; clear HA; simp only [impl_ParseList.l0] at H
    by_cases c9 : x16_1 < (t523.length : Int)
    ·rw [if_pos c9] at H; have c9b0 : decide (x16_1 < (t523.length : Int)) = true := decide_eq_true c9; clear c9; obtain ⟨c10, H⟩ := zi H; have c10b0 : decide (0 ≤ x16_1) = true := decide_eq_true c10; clear c10; obtain ⟨c11, H⟩ := zi H; have c11b0 : decide (x16_1 < (t523.length : Int)) = true := decide_eq_true c11; clear c11; obtain ⟨⟨t527, t528⟩, A12, H⟩ := zb H; (try dsimp only at H); have HU13 := Aside0.mk H; clear H; have p526 : 0 ≤ (x16_1 : Int) := of_decide_eq_true (by assumption); have q526 : x16_1 < (t523.length : Int) := of_decide_eq_true (by assumption); obtain ⟨ad526, e526, hx526_0⟩ := Kd.at_string (Kd.R_reads' HO_14.out).2.2 x16_1 p526 q526
     cases e526; replace p526 := eq_true p526; replace q526 := eq_true q526; go_upto_if 26 with (first | ((with_reducible refine gate_callee (f := 43) rfl ?_); refine goesL_ (some 22) rfl rfl Tryz.func43 (by kernel_rfl) rfl #[.string (rdOf ByteArray.empty t523 x16_1)] rfl (by (try simp only [za, zc, zn]); first | done | rfl) ?_; (with_reducible refine (impl_ParseInt.calls k1 (rdOf ByteArray.empty t523 x16_1) t527 t528 _ A12.out ?sideT).mono ?_); (case sideT => exact HTAB.out.zb (zB HB.out)); rintro e w14 ⟨rfl, hb⟩; refine ⟨_, rfl, ?_⟩; replace HO_4 := Aside0.mk (Kd.R_below (zR HO_4.out) hb); replace HO_14 := Aside0.mk (Kd.R_below (zR HO_14.out) hb); replace HB := Aside0.mk (below_step (zB HB.out) hb); (try clear hb); (try clear hb2); (try clear hk); (try clear hi)))
     (try simp only [Act.put, List.setIfInBounds_toArray, List.set_cons_zero, List.set_cons_succ]); have H := HU13.out; clear HU13
     by_cases c15 : t528 = true
     ·subst c15; rw [zT] at H; obtain ⟨c16, H⟩ := zi H; have LMc16 := Aside0.mk c16; clear c16; obtain ⟨y529, Ny529⟩ : ∃ y_ : List Int, Aside0 (y_ = (x4_1 ++ [t527])) := ⟨_, ⟨rfl⟩⟩; (try rw [Option.bind_some] at H); (try rw [← Ny529.out] at H); have H' := Aside0.mk H; clear H; go_wp2_with (first | ((with_reducible refine gate_builtin (b := .append) (xs := #[.tmp 27, .tmp 29]) rfl ?_); at_builtin; refine Kd.R_append (Kd.int .i64) (w0 := w) w.heap.size rfl (.tmp 27) (.tmp 29) 27 3 (.int .i64 0) 8 rfl Tryz.underlying27 info3 rfl (by decide) (by omega) u4 x4_1 t527 [.int .i64 t527] (fun _ => True) (fun _ => False) rfl rfl ?aP (fun _ hk => hk.elim) ?aF ?aO ?aB ?aS ?aL ?_; (case aP => exact rfl); (case aB => exact (zB HB.out)); (case aF => exact (fun _ _ => trivial)); (case aO => exact (zR HO_4.out)); (case aS => exact (zS HB.out)); (case aL => have := LMc16.out; omega); intro v530 w17 ho hb hg hat; rw [← Ny529.out] at ho; replace HO_14 := Aside0.mk (Kd.R_over' (zR HO_14.out) (Kd.R_typed (zR HO_4.out)) (by decide) hg); replace HB := Aside0.mk (hb); have HO531 := Aside0.mk (ho); clear HO_4; clear ho hb hg hat))
      go_roundg k1
      case measure => have := HK1.out; omega
      case rel => exact ⟨(y529), (wrap64 (x16_1 + 1)), (by first | rfl | (simp; done) | (simp [*]; done)), H', ⟨by have := HK1.out; omega⟩, ⟨zR HO531.out⟩, ⟨zR HO_14.out⟩, ⟨zB HB.out⟩⟩
     ·replace c15 := Bool.eq_false_iff.mpr c15; subst c15; rw [zF] at H; simp only [Option.some.injEq, Prod.mk.injEq] at H; obtain ⟨rfl, rfl⟩ := H; go_wp2; go_ret2; exact ⟨_, by first | rfl | (simp [*, errW_none, errW_some] <;> rfl), by first | exact Kd.R_nil _ _ _ _ _ | exact Kd.N_nil _ _ _ _ _ | exact Kd.V_nil _ _ _ _ _ | exact Kd.Q_nil _ _ _ _ _ | exact Kd.S_nil _ _ _ _ _, zB HB.out⟩
    ·rw [if_neg c9] at H; have c9b0 : decide (x16_1 < (t523.length : Int)) = false := decide_eq_false c9; clear c9; simp only [Option.some.injEq, Prod.mk.injEq] at H; obtain ⟨rfl, rfl⟩ := H; go_wp2; go_ret2; exact ⟨_, by first | rfl | (simp [*, errW_none, errW_some] <;> rfl), zR HO_4.out, zB HB.out⟩

/-! ### spec_SplitByte: function 44 -/
def spec_SplitByte.l0 : Nat → ByteArray → Int → List ByteArray → Int → Int → Option (List ByteArray)
 | 0, _, _, _, _, _ => none
 | k + 1, x0, x1, x5, x6, x7 => if x7 ≤ (x0.size : Int) then (if x7 = (x0.size : Int) then (if 0 ≤ x6 then (if x6 ≤ x7 then (if x5.length < 8796093022208 then (spec_SplitByte.l0 k x0 x1 (x5 ++ [x0.extract (x6 : Int).toNat (x7 : Int).toNat]) (wrap64 (x7 + 1)) (wrap64 (x7 + 1))) else (none)) else (none)) else (none)) else (if 0 ≤ x7 then (if x7 < (x0.size : Int) then (if (bt x0 x7) = x1 then (if 0 ≤ x6 then (if x6 ≤ x7 then (if x5.length < 8796093022208 then (spec_SplitByte.l0 k x0 x1 (x5 ++ [x0.extract (x6 : Int).toNat (x7 : Int).toNat]) (wrap64 (x7 + 1)) (wrap64 (x7 + 1))) else (none)) else (none)) else (none)) else (spec_SplitByte.l0 k x0 x1 x5 x6 (wrap64 (x7 + 1)))) else (none)) else (none))) else (some x5)
def spec_SplitByte.f (k : Nat) (a0 : ByteArray) (a1 : Int) : Option (List ByteArray) := spec_SplitByte.l0 k a0 a1 (([] : List ByteArray)) 0 0
set_option maxHeartbeats 8000000 in
set_option maxRecDepth 100000 in
theorem spec_SplitByte.calls (k : Nat) (a0 : ByteArray) (a1 : Int) (r : List ByteArray) (w : World) (h : spec_SplitByte.f k a0 a1 = some r) :
  Calls Tryz.prog 44 #[.string a0, .int .u8 a1] w fun e w' => ∃ v0_ : Value, e = .returned (v0_) ∧ Kd.R Kd.string 9 w' w.heap.size (fun _ => True) v0_ r ∧ Below w.heap.size w w' := by
 have HB := Aside0.mk (Below.refl w.heap.size w); have H : (spec_SplitByte.l0 k a0 a1 (([] : List ByteArray)) 0 0) = some r := h; clear h; obtain ⟨y532, hy532⟩ : ∃ y_ : List ByteArray, y_ = (([] : List ByteArray)) := ⟨_, rfl⟩; replace H : (spec_SplitByte.l0 k a0 a1 y532 0 0) = some r := by first | (rw [hy532]; with_reducible exact H) | (have H2_ := (Option.bind_some _ _).symm.trans H; rw [hy532]; with_reducible exact H2_) | (have H2_ := (Option.bind_some _ _).symm.trans H; with_reducible exact H2_) | with_reducible exact H | (rw [hy532]; exact H) | exact H
 have Ny532 := Aside0.mk hy532; clear hy532; have H' := Aside0.mk H; clear H; go_enter Tryz.func44, Tryz.ntmps44; go_wp2_with (first | ((with_reducible refine gate_dst (N := 8) rfl ?_); refine Kd.R_lit Kd.string _ 9 ?hg (N := 8) ?hd (xs := ([] : List ByteArray)) (inner := []) (ok := fun _ => True) (okp := fun _ => True) ?hr ?hp (fun _ hk => hk) trivial (Below.refl _ _) (Nat.le_refl _) (by simp) ?_; (case hd => rfl); (case hg => rfl); (case hr => first | (go_simp; done) | (go_simp; rfl)); (case hp => exact (Reps.none _ _)); intro v533 w3 ho4 hb hg_ hnew_; clear hg_ hnew_; (first | rw [← Ny532.out] at ho4 | (simp only [Int.reduceToNat] at ho4; rw [← Ny532.out] at ho4)); have HO534 := Aside0.mk (Kd.R_lower ho4 (zS HB.out)); replace HB := Aside0.mk (below_step (zB HB.out) hb); clear hb ho4)); go_loopg [5, 6, 7] k (fun kq v5 v6 v7 w' => ∃ (x5_1 : List ByteArray) (x6_1 : Int) (x7_1 : Int), v6 = .int .i64 x6_1 ∧ v7 = .int .i64 x7_1 ∧ Aside0 (spec_SplitByte.l0 kq a0 a1 x5_1 x6_1 x7_1 = some r) ∧ Aside0 (kq ≤ k) ∧ Aside0 (Kd.R Kd.string 9 w' w.heap.size (fun _ => True) v5 x5_1) ∧ Aside0 (Below w.heap.size w w'))
 case atStart => exact ⟨(y532), (0), (0), (by first | rfl | (simp; done) | (simp [*]; done)), (by first | rfl | (simp; done) | (simp [*]; done)), H', ⟨Nat.le_refl _⟩, ⟨zR HO534.out⟩, ⟨zB HB.out⟩⟩
 case round =>
  clear H'; obtain ⟨x5_1, x6_1, x7_1, rfl, rfl, HA, HK1, HO_5, HB⟩ := hrel
  cases gk with
  | zero => exact absurd HA.out (by simp [spec_SplitByte.l0])
  | succ k1 =>
   have H := HA.out; clear HA; simp only [spec_SplitByte.l0] at H
   by_cases c5 : x7_1 ≤ (a0.size : Int)
   ·rw [if_pos c5] at H; have c5b0 : decide (x7_1 ≤ (a0.size : Int)) = true := decide_eq_true c5; clear c5
    by_cases c6 : x7_1 = (a0.size : Int)
    ·rw [if_pos c6] at H; have c6b0 : (x7_1 == (a0.size : Int)) = true := beq_iff_eq.mpr c6; have c6b1 : (x7_1 != (a0.size : Int)) = false := bne_eq_false_iff_eq.mpr c6; clear c6; obtain ⟨c7, H⟩ := zi H; have c7b0 := eq_true c7; have c7b1 : decide (0 ≤ x6_1) = true := decide_eq_true c7; clear c7; obtain ⟨c8, H⟩ := zi H; have c8b0 := eq_true c8; have c8b1 : decide (x6_1 ≤ x7_1) = true := decide_eq_true c8; clear c8; have c9b0 := eq_true (of_decide_eq_true (by assumption) : x7_1 ≤ (a0.size : Int)); obtain ⟨c10, H⟩ := zi H; have LMc10 := Aside0.mk c10; clear c10; obtain ⟨y535, Ny535⟩ : ∃ y_ : List ByteArray, Aside0 (y_ = (x5_1 ++ [a0.extract (x6_1 : Int).toNat (x7_1 : Int).toNat])) := ⟨_, ⟨rfl⟩⟩; (try rw [Option.bind_some] at H); (try rw [← Ny535.out] at H); have H' := Aside0.mk H; clear H; go_wp2_with (first | ((with_reducible refine gate_builtin (b := .append) (xs := #[.tmp 26, .tmp 31]) rfl ?_); at_builtin; refine Kd.R_append Kd.string (w0 := w) w.heap.size rfl (.tmp 26) (.tmp 31) 52 9 (.string ⟨#[]⟩) 16 rfl Tryz.underlying52 info9 rfl (by decide) (by omega) u5 x5_1 (a0.extract (x6_1 : Int).toNat (x7_1 : Int).toNat) [.string (a0.extract (x6_1 : Int).toNat (x7_1 : Int).toNat)] (fun _ => True) (fun _ => False) rfl rfl ?aP (fun _ hk => hk.elim) ?aF ?aO ?aB ?aS ?aL ?_; (case aP => exact rfl); (case aB => exact (zB HB.out)); (case aF => exact (fun _ _ => trivial)); (case aO => exact (zR HO_5.out)); (case aS => exact (zS HB.out)); (case aL => have := LMc10.out; omega); intro v536 w11 ho hb hg hat; rw [← Ny535.out] at ho; replace HB := Aside0.mk (hb); have HO537 := Aside0.mk (ho); clear HO_5; clear ho hb hg hat))
     go_roundg k1
     case measure => have := HK1.out; omega
     case rel => exact ⟨(y535), (wrap64 (x7_1 + 1)), (wrap64 (x7_1 + 1)), (by first | rfl | (simp; done) | (simp [*]; done)), (by first | rfl | (simp; done) | (simp [*]; done)), H', ⟨by have := HK1.out; omega⟩, ⟨zR HO537.out⟩, ⟨zB HB.out⟩⟩
    ·rw [if_neg c6] at H; have c6b0 : (x7_1 == (a0.size : Int)) = false := beq_eq_false_iff_ne.mpr c6; have c6b1 : (x7_1 != (a0.size : Int)) = true := bne_iff_ne.mpr c6; obtain ⟨c12, H⟩ := zi H; have c12b0 : decide (0 ≤ x7_1) = true := decide_eq_true c12; clear c12; obtain ⟨c13, H⟩ := zi H; have c13b0 : decide (x7_1 < (a0.size : Int)) = true := decide_eq_true c13; clear c13
     by_cases c15 : (bt a0 x7_1) = a1
     ·rw [if_pos c15] at H; have c15b0 : ((bt a0 x7_1) == a1) = true := beq_iff_eq.mpr c15; have c15b1 : ((bt a0 x7_1) != a1) = false := bne_eq_false_iff_eq.mpr c15; clear c15; obtain ⟨c16, H⟩ := zi H; have c16b0 := eq_true c16; have c16b1 : decide (0 ≤ x6_1) = true := decide_eq_true c16; clear c16; obtain ⟨c17, H⟩ := zi H; have c17b0 := eq_true c17; have c17b1 : decide (x6_1 ≤ x7_1) = true := decide_eq_true c17; clear c17; have c18b0 := eq_true (of_decide_eq_true (by assumption) : x7_1 ≤ (a0.size : Int)); obtain ⟨c19, H⟩ := zi H; have LMc19 := Aside0.mk c19; clear c19; obtain ⟨y538, Ny538⟩ : ∃ y_ : List ByteArray, Aside0 (y_ = (x5_1 ++ [a0.extract (x6_1 : Int).toNat (x7_1 : Int).toNat])) := ⟨_, ⟨rfl⟩⟩; (try rw [Option.bind_some] at H); (try rw [← Ny538.out] at H); have H' := Aside0.mk H; clear H; have p14 : 0 ≤ (x7_1 : Int) := of_decide_eq_true (by assumption); have q14 : x7_1 < (a0.size : Int) := of_decide_eq_true (by assumption); have hx14 := bt_at a0 x7_1; replace p14 := eq_true p14; replace q14 := eq_true q14; go_wp2_with (first | ((with_reducible refine gate_builtin (b := .append) (xs := #[.tmp 26, .tmp 31]) rfl ?_); at_builtin; refine Kd.R_append Kd.string (w0 := w) w.heap.size rfl (.tmp 26) (.tmp 31) 52 9 (.string ⟨#[]⟩) 16 rfl Tryz.underlying52 info9 rfl (by decide) (by omega) u5 x5_1 (a0.extract (x6_1 : Int).toNat (x7_1 : Int).toNat) [.string (a0.extract (x6_1 : Int).toNat (x7_1 : Int).toNat)] (fun _ => True) (fun _ => False) rfl rfl ?aP (fun _ hk => hk.elim) ?aF ?aO ?aB ?aS ?aL ?_; (case aP => exact rfl); (case aB => exact (zB HB.out)); (case aF => exact (fun _ _ => trivial)); (case aO => exact (zR HO_5.out)); (case aS => exact (zS HB.out)); (case aL => have := LMc19.out; omega); intro v539 w20 ho hb hg hat; rw [← Ny538.out] at ho; replace HB := Aside0.mk (hb); have HO540 := Aside0.mk (ho); clear HO_5; clear ho hb hg hat))
      go_roundg k1
      case measure => have := HK1.out; omega
      case rel => exact ⟨(y538), (wrap64 (x7_1 + 1)), (wrap64 (x7_1 + 1)), (by first | rfl | (simp; done) | (simp [*]; done)), (by first | rfl | (simp; done) | (simp [*]; done)), H', ⟨by have := HK1.out; omega⟩, ⟨zR HO540.out⟩, ⟨zB HB.out⟩⟩
     ·rw [if_neg c15] at H; have c15b0 : ((bt a0 x7_1) == a1) = false := beq_eq_false_iff_ne.mpr c15; have c15b1 : ((bt a0 x7_1) != a1) = true := bne_iff_ne.mpr c15; have H' := Aside0.mk H; clear H; have p14 : 0 ≤ (x7_1 : Int) := of_decide_eq_true (by assumption); have q14 : x7_1 < (a0.size : Int) := of_decide_eq_true (by assumption); have hx14 := bt_at a0 x7_1; replace p14 := eq_true p14; replace q14 := eq_true q14; go_wp2
      go_roundg k1
      case measure => have := HK1.out; omega
      case rel => exact ⟨(x5_1), (x6_1), (wrap64 (x7_1 + 1)), (by first | rfl | (simp; done) | (simp [*]; done)), (by first | rfl | (simp; done) | (simp [*]; done)), H', ⟨by have := HK1.out; omega⟩, ⟨zR HO_5.out⟩, ⟨zB HB.out⟩⟩
   ·rw [if_neg c5] at H; have c5b0 : decide (x7_1 ≤ (a0.size : Int)) = false := decide_eq_false c5; clear c5; obtain rfl := Option.some.inj H; go_wp2; go_ret
    exact ⟨_, by first | rfl | (simp [*, errW_none, errW_some] <;> rfl), zR HO_5.out, zB HB.out⟩

/-! ### spec_l1Read: function 60 -/
mutual
def spec_l1Read.j0 : Nat → ByteArray → Int → Bool → Option (Int × Bool)
 | 0, _, _, _ => none
 | k + 1, x0, x1, x6 => if x6 = true then (if 1 ≤ (x0.size : Int) then (spec_l1Read.j1 k x0 x1 x6 (x0.extract 1 x0.size)) else (none)) else (spec_l1Read.j1 k x0 x1 x6 x0)
def spec_l1Read.j1 : Nat → ByteArray → Int → Bool → ByteArray → Option (Int × Bool)
 | 0, _, _, _, _ => none
 | k + 1, x0, x1, x6, x7 => if (x7.size : Int) < 1 then (spec_l1Read.j2 k x0 x6 x7 true) else (spec_l1Read.j2 k x0 x6 x7 (decide ((x7.size : Int) > x1)))
def spec_l1Read.j2 : Nat → ByteArray → Bool → ByteArray → Bool → Option (Int × Bool)
 | 0, _, _, _, _ => none
 | k + 1, x0, x6, x7, x30 => if x30 = true then (some (0, false)) else (spec_l1Read.l0 k x0 x6 x7 0 0)
def spec_l1Read.l0 : Nat → ByteArray → Bool → ByteArray → Int → Int → Option (Int × Bool)
 | 0, _, _, _, _, _ => none
 | k + 1, x0, x6, x7, x8, x9 => if x9 < (x7.size : Int) then (if 0 ≤ x9 then (if (bt x7 x9) < 48 then (some (0, false)) else (if (bt x7 x9) > 57 then (some (0, false)) else (spec_l1Read.l0 k x0 x6 x7 (wrap64 ((wrap64 (10 * x8)) + (((bt x7 x9) - 48) % 256))) (wrap64 (x9 + 1))))) else (none)) else (if x6 = true then ((spec_FormatInt.f k (wrap64 (-x8))).bind fun t541 => (if t541.toList = x0.toList then (some (wrap64 (-x8), true)) else (some (0, false)))) else ((spec_FormatInt.f k x8).bind fun t542 => (if t542.toList = x0.toList then (some (x8, true)) else (some (0, false)))))
end
def spec_l1Read.f (k : Nat) (a0 : ByteArray) (a1 : Int) : Option (Int × Bool) := if (a0.size : Int) > 0 then (if 0 < (a0.size : Int) then (spec_l1Read.j0 k a0 a1 ((bt a0 0) == 45)) else (none)) else (spec_l1Read.j0 k a0 a1 false)
set_option maxHeartbeats 8000000 in
set_option maxRecDepth 100000 in
theorem spec_l1Read.calls (k : Nat) (a0 : ByteArray) (a1 : Int) (r1 : Int) (r2 : Bool) (w : World) (h : spec_l1Read.f k a0 a1 = some (r1, r2)) :
  Calls Tryz.prog 60 #[.string a0, .int .i64 a1] w fun e w' => e = .returned (.tuple #[.int .i64 r1, .bool r2]) ∧ Below w.heap.size w w' := by
 have HB := Aside0.mk (Below.refl w.heap.size w); have H : (if (a0.size : Int) > 0 then (if 0 < (a0.size : Int) then (spec_l1Read.j0 k a0 a1 ((bt a0 0) == 45)) else (none)) else (spec_l1Read.j0 k a0 a1 false)) = some (r1, r2) := h; clear h; have HC3 := Aside0.mk H; clear H; go_enter Tryz.func60, Tryz.ntmps60; go_upto_region 1 with (fail)
 go_cut [6] (fun v6 wc => ∃ (kq : Nat) (x6_2 : Bool), v6 = .bool x6_2 ∧ Aside0 (spec_l1Read.j0 kq a0 a1 x6_2 = some (r1, r2)) ∧ Aside0 (kq ≤ k) ∧ Aside0 (Below w.heap.size w wc))
 case first =>
  have H := HC3.out; clear HC3
  by_cases c4 : (a0.size : Int) > 0
  ·rw [if_pos c4] at H; have c4b0 : decide (0 < (a0.size : Int)) = true := decide_eq_true c4; have c4b1 : decide (0 < a0.size) = true := decide_eq_true (by omega); clear c4; (first | rw [c4b0] | rw [c4b1] | (simp only [i64_w, i32_w]; rw [c4b0]) | (rw [c4b2]; simp only [Bool.not_false, Bool.not_true]) | skip); obtain ⟨c5, H⟩ := zi H; have c5b0 : decide (0 < (a0.size : Int)) = true := decide_eq_true c5; have c5b1 : decide (0 < a0.size) = true := decide_eq_true (by omega); clear c5; have H' := Aside0.mk H; clear H; have p6 : 0 ≤ (0 : Int) := (by omega); have q6 : 0 < a0.size := (by have : (0 : Int) < (a0.size : Int) := of_decide_eq_true (by assumption); omega); have hx6 : ∀ h : 0 < a0.size, ((a0[0]'h).toNat : Int) = bt a0 0 := bt_at a0 0; clear p6; have qi6 : (0 < (a0.size : Int)) = True := eq_true (of_decide_eq_true (by assumption)); replace q6 := eq_true q6; go_wp2
   go_meet
   case rel => exact ⟨_, (((bt a0 0) == 45)), (by first | rfl | (simp; done) | (simp [*]; done)), H', ⟨by first | omega | exact Nat.le_refl _⟩, ⟨zB HB.out⟩⟩
  ·rw [if_neg c4] at H; have c4b0 : decide (0 < (a0.size : Int)) = false := decide_eq_false c4; have c4b1 : decide (0 < a0.size) = false := decide_eq_false (by omega); clear c4; (first | rw [c4b0] | rw [c4b1] | (simp only [i64_w, i32_w]; rw [c4b0]) | (rw [c4b2]; simp only [Bool.not_false, Bool.not_true]) | skip); have H' := Aside0.mk H; clear H; go_wp2
   go_meet
   case rel => exact ⟨_, (false), (by first | rfl | (simp; done) | (simp [*]; done)), H', ⟨by first | omega | exact Nat.le_refl _⟩, ⟨zB HB.out⟩⟩
 case rest =>
  clear HC3; obtain ⟨kq, x6_2, rfl, HA, HJ2, HB⟩ := hcut
  cases kq with
  | zero => exact absurd HA.out (by simp [spec_l1Read.j0])
  | succ kj2 =>
   have H := HA.out; clear HA; simp only [spec_l1Read.j0] at H; have HC7 := Aside0.mk H; clear H; go_upto_if 19 with (fail)
   go_cut [7] (fun v7 wc => ∃ (kq : Nat) (x7_6 : ByteArray), v7 = .string x7_6 ∧ Aside0 (spec_l1Read.j1 kq a0 a1 x6_2 x7_6 = some (r1, r2)) ∧ Aside0 (kq ≤ kj2) ∧ Aside0 (Below w.heap.size w wc))
   case first =>
    have H := HC7.out; clear HC7
    by_cases c8 : x6_2 = true
    ·subst c8; rw [zT] at H; obtain ⟨c9, H⟩ := zi H; have c9b0 := eq_true c9; have c9b1 : decide (1 ≤ (a0.size : Int)) = true := decide_eq_true c9; clear c9; have H' := Aside0.mk H; clear H; go_wp2
     go_meet
     case rel => exact ⟨_, (a0.extract 1 a0.size), (by first | rfl | (simp; done) | (simp [*]; done)), H', ⟨by have := HJ2.out; first | omega | exact Nat.le_refl _⟩, ⟨zB HB.out⟩⟩
    ·replace c8 := Bool.eq_false_iff.mpr c8; subst c8; rw [zF] at H; have H' := Aside0.mk H; clear H; go_wp2
     go_meet
     case rel => exact ⟨_, (a0), (by first | rfl | (simp; done) | (simp [*]; done)), H', ⟨by have := HJ2.out; first | omega | exact Nat.le_refl _⟩, ⟨zB HB.out⟩⟩
   case rest =>
    clear HC7; obtain ⟨kq, x7_6, rfl, HA, HJ6, HB⟩ := hcut
    cases kq with
    | zero => exact absurd HA.out (by simp [spec_l1Read.j1])
    | succ kj6 =>
     have H := HA.out; clear HA; simp only [spec_l1Read.j1] at H; have HC10 := Aside0.mk H; clear H; go_upto_region 5 with (fail)
     go_cut [30] (fun v30 wc => ∃ (kq : Nat) (x30_9 : Bool), v30 = .bool x30_9 ∧ Aside0 (spec_l1Read.j2 kq a0 x6_2 x7_6 x30_9 = some (r1, r2)) ∧ Aside0 (kq ≤ kj6) ∧ Aside0 (Below w.heap.size w wc))
     case first =>
      have H := HC10.out; clear HC10
      by_cases c11 : (x7_6.size : Int) < 1
      ·rw [if_pos c11] at H; have c11b0 : decide ((x7_6.size : Int) < 1) = true := decide_eq_true c11; have c11b1 : decide (x7_6.size < 1) = true := decide_eq_true (by omega); clear c11; (first | rw [c11b0] | rw [c11b1] | (simp only [i64_w, i32_w]; rw [c11b0]) | (rw [c11b2]; simp only [Bool.not_false, Bool.not_true]) | skip); have H' := Aside0.mk H; clear H; go_wp2
       go_meet
       case rel => exact ⟨_, (true), (by first | rfl | (simp; done) | (simp [*]; done)), H', ⟨by have := HJ2.out; have := HJ6.out; first | omega | exact Nat.le_refl _⟩, ⟨zB HB.out⟩⟩
      ·rw [if_neg c11] at H; have c11b0 : decide ((x7_6.size : Int) < 1) = false := decide_eq_false c11; have c11b1 : decide (x7_6.size < 1) = false := decide_eq_false (by omega); clear c11; (first | rw [c11b0] | rw [c11b1] | (simp only [i64_w, i32_w]; rw [c11b0]) | (rw [c11b2]; simp only [Bool.not_false, Bool.not_true]) | skip); have H' := Aside0.mk H; clear H; go_wp2
       go_meet
       case rel => exact ⟨_, (decide ((x7_6.size : Int) > a1)), (by first | rfl | (simp; done) | (simp [*]; done)), H', ⟨by have := HJ2.out; have := HJ6.out; first | omega | exact Nat.le_refl _⟩, ⟨zB HB.out⟩⟩
     case rest =>
      clear HC10; obtain ⟨kq, x30_9, rfl, HA, HJ9, HB⟩ := hcut
      cases kq with
      | zero => exact absurd HA.out (by simp [spec_l1Read.j2])
      | succ kj9 =>
       have H := HA.out; clear HA; simp only [spec_l1Read.j2] at H
       by_cases c12 : x30_9 = true
       ·subst c12; rw [zT] at H; simp only [Option.some.injEq, Prod.mk.injEq] at H; obtain ⟨rfl, rfl⟩ := H; go_wp2; go_ret2; exact ⟨by first | rfl | (simp [*, errW_none, errW_some] <;> rfl), zB HB.out⟩
       ·replace c12 := Bool.eq_false_iff.mpr c12; subst c12; rw [zF] at H; have H' := Aside0.mk H; clear H; go_wp2; go_loopg [8, 9] kj9 (fun kq v8 v9 w' => ∃ (x8_4 : Int) (x9_4 : Int), v8 = .int .i64 x8_4 ∧ v9 = .int .i64 x9_4 ∧ Aside0 (spec_l1Read.l0 kq a0 x6_2 x7_6 x8_4 x9_4 = some (r1, r2)) ∧ Aside0 (kq ≤ kj9) ∧ Aside0 (Below w.heap.size w w'))
        case atStart => exact ⟨(0), (0), (by first | rfl | (simp; done) | (simp [*]; done)), (by first | rfl | (simp; done) | (simp [*]; done)), H', ⟨Nat.le_refl _⟩, ⟨zB HB.out⟩⟩
        case round =>
         clear H'
         try clear c12
         obtain ⟨x8_4, x9_4, rfl, rfl, HA, HK4, HB⟩ := hrel
         cases gk with
         | zero => exact absurd HA.out (by simp [spec_l1Read.l0])
         | succ k4 =>
          have H := HA.out; clear HA; simp only [spec_l1Read.l0] at H
          by_cases c13 : x9_4 < (x7_6.size : Int)
          ·rw [if_pos c13] at H; have c13b0 : decide (x9_4 < (x7_6.size : Int)) = true := decide_eq_true c13; clear c13; obtain ⟨c14, H⟩ := zi H; have c14b0 : decide (0 ≤ x9_4) = true := decide_eq_true c14; clear c14
           by_cases c16 : (bt x7_6 x9_4) < 48
           ·rw [if_pos c16] at H; have c16b0 : decide ((bt x7_6 x9_4) < 48) = true := decide_eq_true c16; clear c16; simp only [Option.some.injEq, Prod.mk.injEq] at H; obtain ⟨rfl, rfl⟩ := H; have p15 : 0 ≤ (x9_4 : Int) := of_decide_eq_true (by assumption); have q15 : x9_4 < (x7_6.size : Int) := of_decide_eq_true (by assumption); have hx15 := bt_at x7_6 x9_4; replace p15 := eq_true p15; replace q15 := eq_true q15; go_wp2; go_ret2; exact ⟨by first | rfl | (simp [*, errW_none, errW_some] <;> rfl), zB HB.out⟩
           ·rw [if_neg c16] at H; have c16b0 : decide ((bt x7_6 x9_4) < 48) = false := decide_eq_false c16; clear c16
            by_cases c18 : (bt x7_6 x9_4) > 57
            ·rw [if_pos c18] at H; have c18b0 : decide (57 < (bt x7_6 x9_4)) = true := decide_eq_true c18; clear c18; simp only [Option.some.injEq, Prod.mk.injEq] at H; obtain ⟨rfl, rfl⟩ := H; have p15 : 0 ≤ (x9_4 : Int) := of_decide_eq_true (by assumption); have q15 : x9_4 < (x7_6.size : Int) := of_decide_eq_true (by assumption); have hx15 := bt_at x7_6 x9_4; replace p15 := eq_true p15; replace q15 := eq_true q15; have p17 : 0 ≤ (x9_4 : Int) := of_decide_eq_true (by assumption); have q17 : x9_4 < (x7_6.size : Int) := of_decide_eq_true (by assumption); have hx17 := bt_at x7_6 x9_4; replace p17 := eq_true p17; replace q17 := eq_true q17; go_wp2; go_ret2; exact ⟨by first | rfl | (simp [*, errW_none, errW_some] <;> rfl), zB HB.out⟩
            ·rw [if_neg c18] at H; have c18b0 : decide (57 < (bt x7_6 x9_4)) = false := decide_eq_false c18; clear c18; have H' := Aside0.mk H; clear H; have p15 : 0 ≤ (x9_4 : Int) := of_decide_eq_true (by assumption); have q15 : x9_4 < (x7_6.size : Int) := of_decide_eq_true (by assumption); have hx15 := bt_at x7_6 x9_4; replace p15 := eq_true p15; replace q15 := eq_true q15; have p17 : 0 ≤ (x9_4 : Int) := of_decide_eq_true (by assumption); have q17 : x9_4 < (x7_6.size : Int) := of_decide_eq_true (by assumption); have hx17 := bt_at x7_6 x9_4; replace p17 := eq_true p17; replace q17 := eq_true q17; have p19 : 0 ≤ (x9_4 : Int) := of_decide_eq_true (by assumption); have q19 : x9_4 < (x7_6.size : Int) := of_decide_eq_true (by assumption); have hx19 := bt_at x7_6 x9_4; replace p19 := eq_true p19; replace q19 := eq_true q19; go_wp2
             go_roundg k4
             case measure => have := HJ2.out; have := HJ6.out; have := HJ9.out; have := HK4.out; omega
             case rel => exact ⟨(wrap64 ((wrap64 (10 * x8_4)) + (((bt x7_6 x9_4) - 48) % 256))), (wrap64 (x9_4 + 1)), (by first | rfl | (simp; done) | (simp [*]; done)), (by first | rfl | (simp; done) | (simp [*]; done)), H', ⟨by have := HJ2.out; have := HJ6.out; have := HJ9.out; have := HK4.out; omega⟩, ⟨zB HB.out⟩⟩
          ·rw [if_neg c13] at H; have c13b0 : decide (x9_4 < (x7_6.size : Int)) = false := decide_eq_false c13; clear c13
           by_cases c20 : x6_2 = true
           ·subst c20; rw [zT] at H; obtain ⟨t541, A21, H⟩ := zb H; have HU22 := Aside0.mk H; clear H; go_upto_if 61 with (first | ((with_reducible refine gate_callee (f := 52) rfl ?_); refine goesL_ (some 59) rfl rfl Tryz.func52 (by kernel_rfl) rfl #[.int .i64 (wrap64 (-x8_4))] rfl (by (try simp only [za, zc, zn]); first | done | rfl) ?_; (with_reducible refine (spec_FormatInt.calls k4 (wrap64 (-x8_4)) t541 _ A21.out).mono ?_); rintro e w23 ⟨rfl, hb⟩; refine ⟨_, rfl, ?_⟩; replace HB := Aside0.mk (below_step (zB HB.out) hb); (try clear hb); (try clear hb2); (try clear hk); (try clear hi)))
            (try simp only [Act.put, List.setIfInBounds_toArray, List.set_cons_zero, List.set_cons_succ]); have H := HU22.out; clear HU22
            by_cases c24 : t541.toList = a0.toList
            ·rw [if_pos c24] at H; have c24b0 : (t541.toList == a0.toList) = true := beq_iff_eq.mpr c24; have c24b1 : (t541.toList != a0.toList) = false := bne_eq_false_iff_eq.mpr c24; clear c24; (first | rw [c24b0] | rw [c24b1] | (simp only [i64_w, i32_w]; rw [c24b0]) | (rw [c24b2]; simp only [Bool.not_false, Bool.not_true]) | skip); simp only [Option.some.injEq, Prod.mk.injEq] at H; obtain ⟨rfl, rfl⟩ := H; go_wp2; go_ret2; exact ⟨by first | rfl | (simp [*, errW_none, errW_some] <;> rfl), zB HB.out⟩
            ·rw [if_neg c24] at H; have c24b0 : (t541.toList == a0.toList) = false := beq_eq_false_iff_ne.mpr c24; have c24b1 : (t541.toList != a0.toList) = true := bne_iff_ne.mpr c24; (first | rw [c24b0] | rw [c24b1] | (simp only [i64_w, i32_w]; rw [c24b0]) | (rw [c24b2]; simp only [Bool.not_false, Bool.not_true]) | skip); simp only [Option.some.injEq, Prod.mk.injEq] at H; obtain ⟨rfl, rfl⟩ := H; go_wp2; go_ret2; exact ⟨by first | rfl | (simp [*, errW_none, errW_some] <;> rfl), zB HB.out⟩
           ·replace c20 := Bool.eq_false_iff.mpr c20; subst c20; rw [zF] at H; obtain ⟨t542, A25, H⟩ := zb H; have HU26 := Aside0.mk H; clear H; go_upto_if 61 with (first | ((with_reducible refine gate_callee (f := 52) rfl ?_); refine goesL_ (some 59) rfl rfl Tryz.func52 (by kernel_rfl) rfl #[.int .i64 x8_4] rfl (by (try simp only [za, zc, zn]); first | done | rfl) ?_; (with_reducible refine (spec_FormatInt.calls k4 x8_4 t542 _ A25.out).mono ?_); rintro e w27 ⟨rfl, hb⟩; refine ⟨_, rfl, ?_⟩; replace HB := Aside0.mk (below_step (zB HB.out) hb); (try clear hb); (try clear hb2); (try clear hk); (try clear hi)))
            (try simp only [Act.put, List.setIfInBounds_toArray, List.set_cons_zero, List.set_cons_succ]); have H := HU26.out; clear HU26
            by_cases c28 : t542.toList = a0.toList
            ·rw [if_pos c28] at H; have c28b0 : (t542.toList == a0.toList) = true := beq_iff_eq.mpr c28; have c28b1 : (t542.toList != a0.toList) = false := bne_eq_false_iff_eq.mpr c28; clear c28; (first | rw [c28b0] | rw [c28b1] | (simp only [i64_w, i32_w]; rw [c28b0]) | (rw [c28b2]; simp only [Bool.not_false, Bool.not_true]) | skip); simp only [Option.some.injEq, Prod.mk.injEq] at H; obtain ⟨rfl, rfl⟩ := H; go_wp2; go_ret2; exact ⟨by first | rfl | (simp [*, errW_none, errW_some] <;> rfl), zB HB.out⟩
            ·rw [if_neg c28] at H; have c28b0 : (t542.toList == a0.toList) = false := beq_eq_false_iff_ne.mpr c28; have c28b1 : (t542.toList != a0.toList) = true := bne_iff_ne.mpr c28; (first | rw [c28b0] | rw [c28b1] | (simp only [i64_w, i32_w]; rw [c28b0]) | (rw [c28b2]; simp only [Bool.not_false, Bool.not_true]) | skip); simp only [Option.some.injEq, Prod.mk.injEq] at H; obtain ⟨rfl, rfl⟩ := H; go_wp2; go_ret2; exact ⟨by first | rfl | (simp [*, errW_none, errW_some] <;> rfl), zB HB.out⟩

end Go.Proofs.YthednemidaegkaaGreatDoor.PFnLists
