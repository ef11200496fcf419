/- Plain law: a closed row of gaps and its least generators. -/
import Derived.Test.YtbagfnppeidonaaM6
namespace Go.Proofs.YtbagfnppeidonaaM
open Go.RowKit Go.Proofs.YtbagfnppeidonaaW.PrintWords Go.Proofs.YtbagfnppeidonaaW.PrintLast Go.Proofs.YtbagfnppeidonaaW.PrintMore
set_option linter.unusedVariables false
set_option linter.unusedSimpArgs false
/-- The numbers outside l are closed under sums. -/
def Closed (l : List Int) : Prop := ∀ a b : Nat, (a : Int) ∉ l → (b : Int) ∉ l → ((a + b : Nat) : Int) ∉ l
/-- Outside l, and no sum of two smaller ones. -/
def IrrN (l : List Int) (x : Nat) : Prop := 1 ≤ x ∧ (x : Int) ∉ l ∧ ∀ y : Nat, 1 ≤ y → 2 * y ≤ x → (y : Int) ∉ l → ((x - y : Nat) : Int) ∈ l
noncomputable def irrB (l : List Int) (x : Nat) : Bool := B (IrrN l x)
noncomputable def irrL (l : List Int) (n : Nat) : List Int := scanV (irrB l) n 0
theorem irrL_mem {l : List Int} {n : Nat} {x : Int} : x ∈ irrL l n ↔ ∃ i : Nat, i < n ∧ IrrN l i ∧ x = (i : Int) := by
  unfold irrL
  rw [scanV_mem]
  constructor
  · rintro ⟨i, _, h2, h3, h4⟩
    exact ⟨i, by omega, B_iff.1 h3, h4⟩
  · rintro ⟨i, h2, h3, h4⟩
    exact ⟨i, by omega, by omega, B_iff.2 h3, h4⟩
theorem irrL_length (l : List Int) (n : Nat) : (irrL l n).length ≤ n := scanV_length _ _ _
theorem irrL_succ (l : List Int) (j : Nat) : irrL l (j + 1) = irrL l j ++ (if irrB l j = true then [(j : Int)] else []) := by
  have := scanV_append (irrB l) j 1 0
  rw [Nat.zero_add] at this
  unfold irrL
  rw [this, scanV_cons, scanV, List.append_nil]
theorem irrL_skip {l : List Int} {j : Nat} (h : ¬ IrrN l j) : irrL l (j + 1) = irrL l j := by
  rw [irrL_succ, show irrB l j = false from B_false h, if_neg (by simp), List.append_nil]
theorem irrL_put {l : List Int} {j : Nat} (h : IrrN l j) : irrL l (j + 1) = irrL l j ++ [(j : Int)] := by
  rw [irrL_succ, show irrB l j = true from B_true h, if_pos rfl]
theorem closed_of {l : List Int} {n : Nat} (htop : ∀ x ∈ l, x ≤ (n : Int)) (h : ∀ a b, 1 ≤ a → a ≤ b → b ≤ n → ¬ gcViol l a b) : Closed l := by
  intro a b ha hb hc
  by_cases a0 : a = 0
  · subst a0
    rw [Nat.zero_add] at hc
    exact hb hc
  by_cases b0 : b = 0
  · subst b0
    exact ha hc
  have := htop _ hc
  rcases Nat.le_total a b with h1 | h1
  · exact h a b (by omega) h1 (by omega) ⟨ha, hb, hc⟩
  · exact h b a (by omega) h1 (by omega) ⟨hb, ha, by rwa [Nat.add_comm]⟩
theorem GC.closed {l : List Int} {r : Int × Int × Bool} (h : GC l r) (hg : GapL l) : r.2.2 = true ↔ ¬ Closed l := by
  rcases h with ⟨h, rfl⟩ | ⟨_, h2, h3⟩
  · have e : l = [] := by
      rcases h with h | h
      · exact absurd hg h
      · exact h
    subst e
    exact ⟨fun hh => by simp at hh, fun hh => absurd (fun a b _ _ hc => absurd hc List.not_mem_nil) hh⟩
  · have hl : 0 < l.length := List.length_pos_iff.2 h2
    have htop : ∀ x ∈ l, x ≤ (((l.getD (l.length - 1) 0).toNat : Nat) : Int) := fun x hx => by
      have h4 := asc_le_last hg.1 hx
      have h5 := hg.2 x hx
      omega
    rcases h3 with ⟨rfl, h3⟩ | ⟨a, b, h4, h5, h6, h7, rfl, _⟩
    · exact ⟨fun hh => by simp at hh, fun hh => absurd (closed_of htop h3) hh⟩
    · exact ⟨fun _ hc => hc a b h7.1 h7.2.1 h7.2.2, fun _ => rfl⟩
theorem irr_out {l : List Int} (hg : GapL l) (hc : Closed l) {n : Nat} {x : Int} (h : Gen (irrL l n) x) : ∃ m : Nat, x = (m : Int) ∧ (m : Int) ∉ l := by
  induction h with
  | zero => exact ⟨0, rfl, fun hh => by have := hg.2 _ hh; omega⟩
  | add _ hx ih =>
    obtain ⟨m, rfl, hm⟩ := ih
    obtain ⟨i, _, hi, rfl⟩ := irrL_mem.1 hx
    exact ⟨m + i, by omega, hc m i hm hi.2.1⟩
theorem irr_gen {l : List Int} : ∀ (x n : Nat), x < n → (x : Int) ∉ l → Gen (irrL l n) (x : Int) := by
  intro x
  induction x using Nat.strongRecOn with
  | ind x ih =>
    intro n hn hx
    by_cases x0 : x = 0
    · subst x0; exact .zero
    by_cases hi : IrrN l x
    · exact .one (irrL_mem.2 ⟨x, hn, hi, rfl⟩)
    · have : ∃ y : Nat, 1 ≤ y ∧ 2 * y ≤ x ∧ (y : Int) ∉ l ∧ ((x - y : Nat) : Int) ∉ l := by
        apply Classical.byContradiction
        intro hh
        exact hi ⟨by omega, hx, fun y h1 h2 h3 => Classical.byContradiction fun h4 => hh ⟨y, h1, h2, h3, h4⟩⟩
      obtain ⟨y, h1, h2, h3, h4⟩ := this
      have := (ih y (by omega) n (by omega) h3).sum (ih (x - y) (by omega) n (by omega) h4)
      rwa [show (y : Int) + ((x - y : Nat) : Int) = (x : Int) by omega] at this
theorem irr_iff {l : List Int} (hg : GapL l) (hc : Closed l) {x : Nat} (hx : 1 ≤ x) : IrrN l x ↔ (x : Int) ∉ l ∧ ¬ Gen (irrL l x) (x : Int) := by
  constructor
  · intro hi
    refine ⟨hi.2.1, fun hgen => ?_⟩
    rcases hgen.inv with h0 | ⟨z, hz, hgz⟩
    · omega
    · obtain ⟨i, hix, hii, rfl⟩ := irrL_mem.1 hz
      obtain ⟨m, hm, hml⟩ := irr_out hg hc hgz
      have hi1 := hii.1
      rcases Nat.le_total i m with h1 | h1
      · have := hi.2.2 i (by omega) (by omega) hii.2.1
        rw [show x - i = m by omega] at this
        exact hml this
      · have := hi.2.2 m (by omega) (by omega) hml
        rw [show x - m = i by omega] at this
        exact hii.2.1 this
  · rintro ⟨h1, h2⟩
    refine ⟨hx, h1, fun y y1 y2 y3 => Classical.byContradiction fun y4 => h2 ?_⟩
    have := (irr_gen y x (by omega) y3).sum (irr_gen (x - y) x (by omega) y4)
    rwa [show (y : Int) + ((x - y : Nat) : Int) = (x : Int) by omega] at this
theorem irr_big {l : List Int} {F : Nat} (htop : ∀ x ∈ l, x ≤ (F : Int)) {x : Nat} (hx : 2 * F + 2 ≤ x) : ¬ IrrN l x := by
  intro hi
  have h1 : ((F + 1 : Nat) : Int) ∉ l := fun hh => by have := htop _ hh; omega
  have h2 := hi.2.2 (F + 1) (by omega) (by omega) h1
  have := htop _ h2
  omega
theorem irrL_top {l : List Int} {F : Nat} (htop : ∀ x ∈ l, x ≤ (F : Int)) : ∀ (d n : Nat), 2 * F + 2 ≤ n → irrL l (n + d) = irrL l n := by
  intro d
  induction d with
  | zero => intro n _; rfl
  | succ d ih =>
    intro n hn
    rw [← Nat.add_assoc, irrL_skip (irr_big htop (by omega)), ih n hn]
theorem irr_gaps {l : List Int} (hg : GapL l) (hc : Closed l) {n : Nat} {F : Nat} (htop : ∀ x ∈ l, x ≤ (F : Int)) (hn : 2 * F + 2 ≤ n) (h : SG (irrL l n)) : gapsV (irrL l n) = l := by
  refine asc_ext (gapsV_asc _) (asc_iff.1 hg.1) (fun x => ?_)
  rw [gapsV_mem h]
  constructor
  · rintro ⟨h1, h2⟩
    apply Classical.byContradiction
    intro h3
    obtain ⟨m, rfl⟩ : ∃ m : Nat, x = (m : Int) := ⟨x.toNat, by omega⟩
    have := irr_gen m (n + (m + 1)) (by omega) h3
    rw [irrL_top htop (m + 1) n hn] at this
    exact h2 this
  · intro hx
    have := hg.2 x hx
    refine ⟨by omega, fun hgen => ?_⟩
    obtain ⟨m, rfl, hm⟩ := irr_out hg hc hgen
    exact hm hx
/-- What FromGaps answers. -/
def FGV (l : List Int) (r : List Int × Bool) : Prop := r = if B (GapL l ∧ Closed l ∧ SG (irrL l 401)) = true then (irrL l 401, true) else ([], false)
theorem FGV.unique {l : List Int} {r r' : List Int × Bool} (h : FGV l r) (h' : FGV l r') : r = r' := h.trans h'.symm
theorem FGV.length {l : List Int} {r : List Int × Bool} (h : FGV l r) : r.1.length ≤ 1000000 := by
  rw [h]
  split
  · have := irrL_length l 401
    exact Nat.le_trans this (by omega)
  · simp
end Go.Proofs.YtbagfnppeidonaaM
