/- Plain law: symmetric, type, genus and the greatest gap. -/
import Derived.Test.YtbagfnppeidonaaM6
namespace Go.Proofs.YtbagfnppeidonaaM
open Go.RowKit Go.Proofs.YtbagfnppeidonaaW.PrintWords Go.Proofs.YtbagfnppeidonaaW.PrintLast Go.Proofs.YtbagfnppeidonaaW.PrintMore
set_option linter.unusedVariables false
set_option linter.unusedSimpArgs false
def b01 (b : Bool) : Nat := if b = true then 1 else 0
theorem b01_le (b : Bool) : b01 b ≤ 1 := by cases b <;> simp [b01]
/-- How many numbers below n. -/
def cnt (P : Nat → Bool) : Nat → Nat
  | 0 => 0
  | n + 1 => cnt P n + b01 (P n)
theorem cnt_congr {P Q : Nat → Bool} : ∀ n, (∀ i, i < n → P i = Q i) → cnt P n = cnt Q n := by
  intro n
  induction n with
  | zero => intro _; rfl
  | succ n ih => intro h; rw [cnt, cnt, ih (fun i hi => h i (by omega)), h n (by omega)]
theorem cnt_front (P : Nat → Bool) : ∀ n, cnt P (n + 1) = b01 (P 0) + cnt (fun i => P (i + 1)) n := by
  intro n
  induction n with
  | zero => simp [cnt]
  | succ n ih => rw [cnt, ih, cnt]; omega
theorem cnt_rev (n : Nat) : ∀ P : Nat → Bool, cnt (fun i => P (n - i)) (n + 1) = cnt P (n + 1) := by
  induction n with
  | zero => intro P; rfl
  | succ n ih =>
    intro P
    rw [cnt, cnt_front P, Nat.sub_self]
    have := ih (fun i => P (i + 1))
    rw [← this, cnt_congr (P := fun i => P (n + 1 - i)) (Q := fun i => P (n - i + 1)) (n + 1) (fun i hi => by show P _ = P _; congr 1; omega)]
    omega
theorem cnt_zero {P : Nat → Bool} : ∀ n, cnt P n = 0 ↔ ∀ i, i < n → P i = false := by
  intro n
  induction n with
  | zero => exact ⟨fun _ i hi => by omega, fun _ => rfl⟩
  | succ n ih =>
    rw [cnt]
    constructor
    · intro h i hi
      by_cases e : i = n
      · subst e
        cases hp : P i with
        | false => rfl
        | true => rw [hp] at h; simp [b01] at h
      · exact ih.1 (by omega) i (by omega)
    · intro h
      rw [ih.2 (fun i hi => h i (by omega)), h n (by omega)]
      rfl
theorem cnt_one {P : Nat → Bool} {n : Nat} (h : cnt P n = 1) : ∃ i, i < n ∧ P i = true ∧ ∀ j, j < n → P j = true → j = i := by
  induction n with
  | zero => simp [cnt] at h
  | succ n ih =>
    rw [cnt] at h
    cases hp : P n with
    | true =>
      rw [hp] at h
      have h0 : cnt P n = 0 := by simp [b01] at h; exact h
      refine ⟨n, by omega, hp, fun j hj hj2 => ?_⟩
      by_cases e : j = n
      · exact e
      · rw [(cnt_zero n).1 h0 j (by omega)] at hj2; simp at hj2
    | false =>
      rw [hp] at h
      obtain ⟨i, h1, h2, h3⟩ := ih (by simpa [b01] using h)
      refine ⟨i, by omega, h2, fun j hj hj2 => ?_⟩
      by_cases e : j = n
      · subst e; rw [hp] at hj2; simp at hj2
      · exact h3 j (by omega) hj2
theorem cnt_only {P : Nat → Bool} {n i : Nat} (hi : i < n) (h1 : P i = true) (h2 : ∀ j, j < n → P j = true → j = i) : cnt P n = 1 := by
  induction n with
  | zero => omega
  | succ n ih =>
    rw [cnt]
    by_cases e : i = n
    · subst e
      rw [h1, (cnt_zero i).2 (fun j hj => by
        cases hp : P j with
        | false => rfl
        | true => have := h2 j (by omega) hp; omega)]
      rfl
    · rw [ih (by omega) (fun j hj hp => h2 j (by omega) hp)]
      cases hp : P n with
      | false => rfl
      | true => have := h2 n (by omega) hp; omega
theorem cnt_add {P Q R : Nat → Bool} : ∀ n, (∀ i, i < n → b01 (P i) = b01 (Q i) + b01 (R i)) → cnt P n = cnt Q n + cnt R n := by
  intro n
  induction n with
  | zero => intro _; rfl
  | succ n ih => intro h; rw [cnt, cnt, cnt, ih (fun i hi => h i (by omega)), h n (by omega)]; omega
theorem cnt_all : ∀ n, cnt (fun _ => true) n = n := by
  intro n
  induction n with
  | zero => rfl
  | succ n ih => rw [cnt, ih]; rfl
theorem cnt_more {P : Nat → Bool} {n : Nat} : ∀ d, (∀ i, n ≤ i → i < n + d → P i = false) → cnt P (n + d) = cnt P n := by
  intro d
  induction d with
  | zero => intro _; rfl
  | succ d ih => intro h; rw [← Nat.add_assoc, cnt, ih (fun i h1 h2 => h i h1 (by omega)), h (n + d) (by omega) (by omega)]; rfl
theorem scanV_cnt (P : Nat → Bool) : ∀ n, (scanV P n 0).length = cnt P n := by
  intro n
  induction n with
  | zero => rfl
  | succ n ih =>
    have := scanV_append P n 1 0
    rw [this, List.length_append, ih, cnt, scanV_cons, Nat.zero_add]
    unfold b01
    split <;> simp [scanV]
/-- Both i and its mirror are gaps. -/
noncomputable def twoB (g : List Int) (f i : Nat) : Bool := !gB g i && !gB g (f - i)
theorem twoB_iff {g : List Int} {f i : Nat} : twoB g f i = true ↔ ¬ Gen g (i : Int) ∧ ¬ Gen g ((f - i : Nat) : Int) := by
  unfold twoB
  rw [Bool.and_eq_true, nB_iff, nB_iff]
theorem genus_count {g : List Int} (h : SG g) {f : Nat} (hf : (f : Int) = frobV g) : 2 * (gapsV g).length = f + 1 + cnt (twoB g f) (f + 1) := by
  have hr := frobV_range g
  have e1 : (gapsV g).length = cnt (fun n => !gB g n) (f + 1) := by
    unfold gapsV
    rw [scanV_cnt]
    have := cnt_more (P := fun n => !gB g n) (n := f + 1) (200 - (f + 1)) (fun i h1 h2 => by
      rw [gB_iff.2 (frobV_above h (n := (i : Int)) (by omega) (by omega))]; rfl)
    rwa [show f + 1 + (200 - (f + 1)) = 200 by omega] at this
  have e2 : cnt (fun _ => true) (f + 1) = cnt (fun n => !gB g n) (f + 1) + cnt (gB g) (f + 1) := cnt_add _ (fun i _ => by cases gB g i <;> rfl)
  have e3 := cnt_rev f (fun n => !gB g n)
  have e4 : cnt (fun i => !gB g (f - i)) (f + 1) = cnt (gB g) (f + 1) + cnt (twoB g f) (f + 1) := cnt_add _ (fun i hi => by
    unfold twoB
    cases hp : gB g i with
    | false => cases gB g (f - i) <;> rfl
    | true =>
      have hn : gB g (f - i) = false := by
        cases hq : gB g (f - i) with
        | false => rfl
        | true =>
          have := (gB_iff.1 hp).sum (gB_iff.1 hq)
          rw [show (i : Int) + ((f - i : Nat) : Int) = frobV g by omega] at this
          exact absurd this (frobV_gap h (by omega))
      rw [hn]; rfl)
  rw [cnt_all] at e2
  rw [e1]
  have e3' : cnt (fun i => !gB g (f - i)) (f + 1) = cnt (fun n => !gB g n) (f + 1) := e3
  omega
theorem frob_neg {g : List Int} (h : SG g) (hf : frobV g < 0) : (gapsV g).length = 0 := by
  apply Classical.byContradiction
  intro hc
  rw [frobV_sg h, lastV, if_neg hc] at hf
  have := gapsV_range h (getD_mem (l := gapsV g) (j := (gapsV g).length - 1) (by omega))
  omega
theorem frob_nonneg {g : List Int} (h : SG g) (hf : 0 ≤ frobV g) : (gapsV g).length ≠ 0 := by
  intro hc
  rw [frobV_sg h, lastV, if_pos hc] at hf
  omega
theorem mirror_iff {g : List Int} (h : SG g) {f i : Nat} (hf : (f : Int) = frobV g) (hi : i ≤ f) : (Gen g (i : Int) ↔ ¬ Gen g (frobV g - (i : Int))) ↔ twoB g f i = false := by
  have e : frobV g - (i : Int) = ((f - i : Nat) : Int) := by omega
  rw [e]
  constructor
  · intro hh
    cases hb : twoB g f i with
    | false => rfl
    | true =>
      obtain ⟨a, b⟩ := twoB_iff.1 hb
      exact absurd (hh.2 b) a
  · intro hh
    constructor
    · intro a b
      have := a.sum b
      rw [show (i : Int) + ((f - i : Nat) : Int) = frobV g by omega] at this
      exact frobV_gap h (by omega) this
    · intro a
      apply Classical.byContradiction
      intro b
      rw [twoB_iff.2 ⟨b, a⟩] at hh
      simp at hh
theorem sym_iff {g : List Int} (h : SG g) {f : Nat} (hf : (f : Int) = frobV g) : symV g = true ↔ cnt (twoB g f) (f + 1) = 0 := by
  unfold symV mirB
  rw [B_iff, B_iff, cnt_zero]
  constructor
  · intro hh i hi
    exact (mirror_iff h hf (by omega)).1 (hh.2 i (by omega) (by omega) (by simp))
  · intro hh
    exact ⟨h, fun i _ hi _ => (mirror_iff h hf (by omega)).2 (hh i (by omega))⟩
theorem ps_iff {g : List Int} (h : SG g) {f : Nat} (hf : (f : Int) = frobV g) : psV g = true ↔ cnt (twoB g f) (f + 1) = 1 := by
  have hp := frobV_pos h (by omega)
  unfold psV mirB
  rw [B_iff, B_iff]
  constructor
  · rintro ⟨_, h1, h2, h3⟩
    refine cnt_only (i := f / 2) (by omega) ?_ (fun j hj hp => ?_)
    · have hn : ¬ Gen g ((f / 2 : Nat) : Int) := fun hg => by
        have := hg.sum hg
        rw [show ((f / 2 : Nat) : Int) + ((f / 2 : Nat) : Int) = frobV g by omega] at this
        exact frobV_gap h (by omega) this
      rw [twoB_iff]
      refine ⟨hn, ?_⟩
      rw [show f - f / 2 = f / 2 by omega]
      exact hn
    · apply Classical.byContradiction
      intro hc
      have := (mirror_iff h hf (i := j) (by omega)).1 (h3 j (by omega) (by omega) (by omega))
      rw [this] at hp
      simp at hp
  · intro hh
    obtain ⟨i, h1, h2, h3⟩ := cnt_one hh
    have h4 := twoB_iff.1 h2
    have h5 := h3 (f - i) (by omega) (twoB_iff.2 ⟨h4.2, by rw [show f - (f - i) = i by omega]; exact h4.1⟩)
    refine ⟨h, by omega, by omega, fun j _ hj hne => (mirror_iff h hf (by omega)).2 ?_⟩
    cases hb : twoB g f j with
    | false => rfl
    | true =>
      have := h3 j (by omega) hb
      omega
theorem pf_frob {g : List Int} (h : SG g) (h0 : (gapsV g).length ≠ 0) : frobV g ∈ pfL g := by
  have e : frobV g = (gapsV g).getD ((gapsV g).length - 1) 0 := by rw [frobV_sg h, lastV, if_neg h0]
  have hm : frobV g ∈ gapsV g := by rw [e]; exact getD_mem (by omega)
  have hp := gapsV_range h hm
  exact List.mem_filter.2 ⟨hm, B_true (fun y hy => frobV_above h (by have := h.pos y hy; omega) (by have := h.pos y hy; omega))⟩
/-- Above each gap stands a pseudo-Frobenius number. -/
theorem pf_above {g : List Int} (h : SG g) : ∀ (d : Nat) (x : Int), x ∈ gapsV g → 200 ≤ x + d → ∃ s, Gen g s ∧ x + s ∈ pfL g := by
  intro d
  induction d with
  | zero => intro x hx hd; have := gapsV_range h hx; omega
  | succ d ih =>
    intro x hx hd
    have hr := gapsV_range h hx
    by_cases c : ∀ y ∈ g, Gen g (x + y)
    · exact ⟨0, .zero, by rw [Int.add_zero]; exact List.mem_filter.2 ⟨hx, B_true c⟩⟩
    · obtain ⟨y, hy⟩ := Classical.not_forall.1 c
      obtain ⟨hy, hn⟩ := Classical.not_imp.1 hy
      have hp := h.pos y hy
      obtain ⟨s, h1, h2⟩ := ih (x + y) ((gapsV_mem h _).2 ⟨by omega, hn⟩) (by omega)
      refine ⟨s + y, h1.add hy, ?_⟩
      rwa [show x + (s + y) = x + y + s by omega]
theorem type_iff {g : List Int} (h : SG g) : symV g = true ↔ typeV g = 1 := by
  by_cases h0 : (gapsV g).length = 0
  · have hf : frobV g = -1 := by rw [frobV_sg h, lastV, if_pos h0]
    unfold typeV symV mirB
    rw [if_pos (B_true h), if_pos h0, B_iff, B_iff, hf]
    exact ⟨fun _ => rfl, fun _ => ⟨h, fun i h1 h2 => by omega⟩⟩
  · have hF := pf_frob h h0
    have hfr := gapsV_range h (pfL_gap hF)
    obtain ⟨f, hf⟩ : ∃ f : Nat, (f : Int) = frobV g := ⟨(frobV g).toNat, by omega⟩
    have e : typeV g = ((pfL g).length : Int) := by unfold typeV; rw [if_pos (B_true h), if_neg h0]
    rw [e, sym_iff h hf, cnt_zero]
    constructor
    · intro hs
      have hall : ∀ x ∈ pfL g, x = frobV g := fun x hx => by
        apply Classical.byContradiction
        intro hne
        have hg := pfL_gap hx
        have hr := gapsV_range h hg
        have hle : x ≤ frobV g := by
          apply Classical.byContradiction
          intro hc
          exact ((gapsV_mem h x).1 hg).2 (frobV_above h (by omega) (by omega))
        have hb := hs x.toNat (by omega)
        have hm : Gen g ((f - x.toNat : Nat) : Int) := by
          apply Classical.byContradiction
          intro hc
          rw [twoB_iff.2 ⟨by rw [Int.toNat_of_nonneg (by omega)]; exact ((gapsV_mem h x).1 hg).2, hc⟩] at hb
          simp at hb
        rw [show ((f - x.toNat : Nat) : Int) = frobV g - x by omega] at hm
        rcases hm.inv with h1 | ⟨y, hy, h1⟩
        · omega
        · have h2 := B_iff.1 (List.mem_filter.1 hx).2 y hy
          have h3 := h2.sum h1
          rw [show x + y + (frobV g - x - y) = frobV g by omega] at h3
          exact frobV_gap h (by omega) h3
      have hnd : (pfL g).Pairwise (· < ·) := (gapsV_asc g).filter _
      have hpos := pfL_pos h h0
      have : (pfL g).length ≤ 1 := by
        apply Classical.byContradiction
        intro hc
        have a := hall _ (getD_mem (l := pfL g) (j := 0) (by omega))
        have b := hall _ (getD_mem (l := pfL g) (j := 1) (by omega))
        have c := (asc_iff.2 hnd) 0 (by omega)
        rw [Nat.zero_add] at c
        omega
      omega
    · intro h1 i hi
      have hone : ∀ x ∈ pfL g, x = frobV g := fun x hx => by
        obtain ⟨y, hy⟩ := List.length_eq_one_iff.1 (show (pfL g).length = 1 by omega)
        rw [hy] at hx hF
        rw [List.mem_singleton.1 hx, List.mem_singleton.1 hF]
      cases hb : twoB g f i with
      | false => rfl
      | true =>
        obtain ⟨a, b⟩ := twoB_iff.1 hb
        obtain ⟨s, s1, s2⟩ := pf_above h 200 (i : Int) ((gapsV_mem h _).2 ⟨by omega, a⟩) (by omega)
        have := hone _ s2
        rw [show s = ((f - i : Nat) : Int) by omega] at s1
        exact absurd s1 b
theorem sym_genus {g : List Int} (h : SG g) : (symV g = true ↔ 2 * ((gapsV g).length : Int) = frobV g + 1) ∧ (psV g = true ↔ 0 < frobV g ∧ 2 * ((gapsV g).length : Int) = frobV g + 2) ∧ frobV g + 1 ≤ 2 * ((gapsV g).length : Int) := by
  by_cases h0 : 0 ≤ frobV g
  · obtain ⟨f, hf⟩ : ∃ f : Nat, (f : Int) = frobV g := ⟨(frobV g).toNat, by omega⟩
    have hp := frobV_pos h h0
    rw [sym_iff h hf, ps_iff h hf]
    have := genus_count h hf
    omega
  · have hr := frobV_range g
    have e := frob_neg h (by omega)
    rw [e, type_iff h]
    unfold typeV psV
    rw [if_pos (B_true h), if_pos e, B_iff]
    omega
theorem frob_special {g : List Int} (h : SG g) (h1 : 1 ≤ frobV g) : frobV g ∈ spL g := by
  unfold spL
  rw [pfV_sg h]
  exact List.mem_filter.2 ⟨pf_frob h (frob_nonneg h (by omega)), B_true (frobV_above h (by omega) (by omega))⟩
end Go.Proofs.YtbagfnppeidonaaM
