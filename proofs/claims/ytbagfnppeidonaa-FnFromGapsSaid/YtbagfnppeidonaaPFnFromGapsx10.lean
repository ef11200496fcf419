-- Written by a program of this session (a turned copy of the kit's print; see NOTES.md).
import Derived.Test.YtbagfnppeidonaaPFnFromGapsx0
import Derived.Test.YtbagfnppeidonaaPFnFromGapsx9
namespace Go.Proofs.Ytbagfnppeidonaa.PFnFromGaps
open Go.RowKit Go.Proofs.YtbagfnppeidonaaW.PrintWords Go.Proofs.YtbagfnppeidonaaW.PrintLast Go.Proofs.YtbagfnppeidonaaW.PrintMore
attribute [local go_sem] max2_int min2_int max_two min_two max_three min_three max_four min_four   -- for this text's walks alone
set_option linter.unusedVariables false
set_option linter.unusedSimpArgs false

/-! ### spec_l3Ends: function 128 -/
def spec_l3Ends.l0 : Nat → List Int → List Bool → Int → Option (Bool)
 | 0, _, _, _ => none
 | k + 1, x0, x3, x4 => if 0 < (x0.length : Int) then (if x4 < (wrap64 (200 + (rd x0 0))) then (if 0 ≤ x4 then (if x4 < (x3.length : Int) then (if rdOf false x3 x4 = true then (spec_l3Ends.l0 k x0 x3 (wrap64 (x4 + 1))) else (some false)) else (none)) else (none)) else (some true)) else (none)
def spec_l3Ends.f (k : Nat) (l0 : List Int) : Option (Bool) := (spec_l3Table.f k l0 260).bind fun t284 => (spec_l3Ends.l0 k l0 t284 200)
set_option maxHeartbeats 8000000 in
set_option maxRecDepth 100000 in
theorem spec_l3Ends.calls (k : Nat) (A0 : Option Addr) (c0 : Nat) (l0 : List Int) (r : Bool) (w : World) (hr0 : Kd.C (Kd.int .i64) w A0 l0.length l0) (hc0 : l0.length ≤ c0) (h : spec_l3Ends.f k l0 = some r) :
  Calls Try.prog 128 #[.slice A0 l0.length c0] w fun e w' => e = .returned (.bool r) ∧ Below w.heap.size w w' := by
 have HR0 := Aside0.mk hr0; have HC0 := Aside0.mk hc0; clear hr0 hc0; have HB := Aside0.mk (Below.refl w.heap.size w); have H : ((spec_l3Table.f k l0 260).bind fun t284 => (spec_l3Ends.l0 k l0 t284 200)) = some r := h; clear h; obtain ⟨t284, A2, H⟩ := zb H; have H' := Aside0.mk H; clear H; go_enter Try.func128, Try.ntmps128; go_wp2_with (first | ((with_reducible refine gate_callee (f := 134) rfl ?_); refine goesL_ (some 6) rfl rfl Try.func134 (by kernel_rfl) rfl #[.slice A0 l0.length c0, .int .i64 260] rfl (by (try simp only [za, zc, zn]); first | done | rfl) ?_; (with_reducible refine (spec_l3Table.calls k _ _ l0 260 t284 _ ?side1 ?side2 A2.out).mono ?_); (case side1 => repeat (first | exact HR0.out | (with_reducible refine Kd.C_alloc ?_ _) | (with_reducible refine Kd.C_drewN ?_ _) | (with_reducible refine Kd.C_drew ?_))); (case side2 => exact HC0.out); rintro e w3 ⟨v285, rfl, ho0, hb⟩; refine ⟨_, rfl, ?_⟩; have HO286 := Aside0.mk (Kd.R_lower ho0 (zS HB.out)); replace HB := Aside0.mk (below_step (zB HB.out) hb); (try clear hb); (try clear hb2); (try clear hk); (try clear hi); (try clear ho0))); go_loopg [4] k (fun kq v4 w' => ∃ (x4_1 : Int), v4 = .int .i64 x4_1 ∧ Aside0 (spec_l3Ends.l0 kq l0 t284 x4_1 = some r) ∧ Aside0 (kq ≤ k) ∧ Aside0 (Kd.R Kd.bool 4 w' w.heap.size (fun _ => True) v285 t284) ∧ Aside0 (Below w.heap.size w w'))
 case atStart => exact ⟨(200), (by first | rfl | (simp; done) | (simp [*]; done)), H', ⟨Nat.le_refl _⟩, ⟨zR HO286.out⟩, ⟨zB HB.out⟩⟩
 case round =>
  clear H'; obtain ⟨x4_1, rfl, HA, HK1, HO_3, HB⟩ := hrel
  cases gk with
  | zero => exact absurd HA.out (by simp [spec_l3Ends.l0])
  | succ k1 =>
   have H := HA.out; clear HA; simp only [spec_l3Ends.l0] at H
   by_cases c4 : 0 < (l0.length : Int)
   ·rw [if_pos c4] at H; have c4b0 : decide (0 < (l0.length : Int)) = true := decide_eq_true c4; have c4b1 : decide (0 < l0.length) = true := decide_eq_true (by omega); clear c4
    by_cases c5 : x4_1 < (wrap64 (200 + (rd l0 0)))
    ·rw [if_pos c5] at H; have c5b0 : decide (x4_1 < (wrap64 (200 + (rd l0 0)))) = true := decide_eq_true c5; clear c5; obtain ⟨c6, H⟩ := zi H; have c6b0 : decide (0 ≤ x4_1) = true := decide_eq_true c6; clear c6; obtain ⟨c7, H⟩ := zi H; have c7b0 : decide (x4_1 < (t284.length : Int)) = true := decide_eq_true c7; clear c7; obtain ⟨bq8, hbq8⟩ : ∃ b_ : Bool, b_ = (rdOf false t284 x4_1) := ⟨_, rfl⟩; replace H : (if bq8 = true then (spec_l3Ends.l0 k1 l0 t284 (wrap64 (x4_1 + 1))) else (some false)) = some r := by rw [← hbq8] at H; exact H
     have Nbq8 := Aside0.mk hbq8; clear hbq8
     by_cases c9 : bq8 = true
     ·subst c9; rw [zT] at H; have H' := Aside0.mk H; clear H; have p287 : 0 ≤ (0 : Int) := (by omega); have q287 : 0 < (l0.length : Int) := of_decide_eq_true (by assumption); obtain ⟨ad287, e287, hx287_0⟩ := Kd.at_int HR0.out 0 p287 q287
      cases e287; have qi287 : (0 < l0.length) = True := eq_true (by omega); (try rw [show ((0 : Int)).toNat = 0 from rfl] at hx287_0); (try rw [Addr.add_zero'] at hx287_0); (try replace hx287_0 := (HB.out.cell (World.block_lt_of_cell? w _ hx287_0)).trans hx287_0); replace p287 := eq_true p287; replace q287 := eq_true q287; obtain ⟨Ao10, co10, eo10⟩ := Kd.R_slice HO_3.out; subst eo10; have p288 : 0 ≤ (x4_1 : Int) := of_decide_eq_true (by assumption); have q288 : x4_1 < (t284.length : Int) := of_decide_eq_true (by assumption); obtain ⟨ad288, e288, hx288_0⟩ := Kd.at_bool (Kd.R_reads' HO_3.out).2.2 x4_1 p288 q288; (try rw [← Nbq8.out] at hx288_0)
      cases e288; replace p288 := eq_true p288; replace q288 := eq_true q288; go_wp2
      go_roundg k1
      case measure => have := HK1.out; omega
      case rel => exact ⟨(wrap64 (x4_1 + 1)), (by first | rfl | (simp; done) | (simp [*]; done)), H', ⟨by have := HK1.out; omega⟩, ⟨zR HO_3.out⟩, ⟨zB HB.out⟩⟩
     ·replace c9 := Bool.eq_false_iff.mpr c9; subst c9; rw [zF] at H; obtain rfl := Option.some.inj H; have p287 : 0 ≤ (0 : Int) := (by omega); have q287 : 0 < (l0.length : Int) := of_decide_eq_true (by assumption); obtain ⟨ad287, e287, hx287_0⟩ := Kd.at_int HR0.out 0 p287 q287
      cases e287; have qi287 : (0 < l0.length) = True := eq_true (by omega); (try rw [show ((0 : Int)).toNat = 0 from rfl] at hx287_0); (try rw [Addr.add_zero'] at hx287_0); (try replace hx287_0 := (HB.out.cell (World.block_lt_of_cell? w _ hx287_0)).trans hx287_0); replace p287 := eq_true p287; replace q287 := eq_true q287; obtain ⟨Ao11, co11, eo11⟩ := Kd.R_slice HO_3.out; subst eo11; have p288 : 0 ≤ (x4_1 : Int) := of_decide_eq_true (by assumption); have q288 : x4_1 < (t284.length : Int) := of_decide_eq_true (by assumption); obtain ⟨ad288, e288, hx288_0⟩ := Kd.at_bool (Kd.R_reads' HO_3.out).2.2 x4_1 p288 q288; (try rw [← Nbq8.out] at hx288_0)
      cases e288; replace p288 := eq_true p288; replace q288 := eq_true q288; go_wp2; go_ret
      exact ⟨by first | rfl | (simp [*, errW_none, errW_some] <;> rfl), zB HB.out⟩
    ·rw [if_neg c5] at H; have c5b0 : decide (x4_1 < (wrap64 (200 + (rd l0 0)))) = false := decide_eq_false c5; clear c5; obtain rfl := Option.some.inj H; have p287 : 0 ≤ (0 : Int) := (by omega); have q287 : 0 < (l0.length : Int) := of_decide_eq_true (by assumption); obtain ⟨ad287, e287, hx287_0⟩ := Kd.at_int HR0.out 0 p287 q287
     cases e287; have qi287 : (0 < l0.length) = True := eq_true (by omega); (try rw [show ((0 : Int)).toNat = 0 from rfl] at hx287_0); (try rw [Addr.add_zero'] at hx287_0); (try replace hx287_0 := (HB.out.cell (World.block_lt_of_cell? w _ hx287_0)).trans hx287_0); replace p287 := eq_true p287; replace q287 := eq_true q287; go_wp2; go_ret
     exact ⟨by first | rfl | (simp [*, errW_none, errW_some] <;> rfl), zB HB.out⟩
   ·rw [if_neg c4] at H; exact absurd H (by simp)

end Go.Proofs.Ytbagfnppeidonaa.PFnFromGaps
