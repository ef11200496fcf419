/- Plain law: least generators are told by the sums alone; what FromElements and FromGens answer. -/
import Derived.Test.YtbagfnppeidonaaM7
namespace Go.Proofs.YtbagfnppeidonaaM
open Go.RowKit Go.Proofs.YtbagfnppeidonaaW.PrintWords Go.Proofs.YtbagfnppeidonaaW.PrintLast Go.Proofs.YtbagfnppeidonaaW.PrintMore
set_option linter.unusedVariables false
set_option linter.unusedSimpArgs false
/-- A sum that is no sum of two lesser ones. -/
def Atom (g : List Int) (x : Int) : Prop := 1 ≤ x ∧ Gen g x ∧ ∀ y, 1 ≤ y → y < x → Gen g y → ¬ Gen g (x - y)
theorem Atom.congr {g g' : List Int} (h : ∀ n, Gen g n ↔ Gen g' n) (x : Int) : Atom g x ↔ Atom g' x := by
  unfold Atom
  rw [h]
  exact ⟨fun ⟨a, b, c⟩ => ⟨a, b, fun y y1 y2 y3 y4 => c y y1 y2 ((h y).2 y3) ((h _).2 y4)⟩, fun ⟨a, b, c⟩ => ⟨a, b, fun y y1 y2 y3 y4 => c y y1 y2 ((h y).1 y3) ((h _).1 y4)⟩⟩
theorem gen_below {s : List Int} (hp : ∀ x ∈ s, 1 ≤ x) (ha : Asc s) {i : Nat} (hi : i < s.length) {n : Int} (hn : Gen s n) : n < s.getD i 0 → Gen (s.take i) n := by
  induction hn with
  | zero => intro _; exact .zero
  | @add m x hm hx ih =>
    intro hlt
    have h0 := hm.nonneg hp
    have hx1 := hp x hx
    refine (ih (by omega)).add ?_
    obtain ⟨j, hj, rfl⟩ := mem_getD hx
    have hji : j < i := by
      apply Classical.byContradiction
      intro hc
      by_cases e : j = i
      · subst e; omega
      · have := asc_lt ha (j - (i + 1)) i (by omega)
        rw [show i + 1 + (j - (i + 1)) = j by omega] at this
        omega
    rw [getD_get hj, List.mem_take_iff_getElem]
    exact ⟨j, by omega, rfl⟩
theorem min_atom {s : List Int} (hp : ∀ x ∈ s, 1 ≤ x) (ha : Asc s) (hm : Min s) (x : Int) : x ∈ s ↔ Atom s x := by
  constructor
  · intro hx
    refine ⟨hp x hx, .one hx, fun y y1 y2 y3 y4 => ?_⟩
    obtain ⟨i, hi, rfl⟩ := mem_getD hx
    have a := gen_below hp ha hi y3 y2
    have b := gen_below hp ha hi y4 (by omega)
    have c := a.sum b
    rw [show y + (s.getD i 0 - y) = s.getD i 0 by omega] at c
    by_cases e : i = 0
    · subst e
      rw [List.take_zero] at c
      rcases c.inv with h0 | ⟨z, hz, _⟩
      · omega
      · simp at hz
    · exact hm i (by omega) hi c
  · rintro ⟨h1, h2, h3⟩
    rcases h2.inv with h0 | ⟨z, hz, hg⟩
    · omega
    · have z1 := hp z hz
      have z2 := hg.nonneg hp
      by_cases e : x = z
      · rw [e]; exact hz
      · exact absurd hg (h3 z z1 (by omega) (.one hz))
/-- Two rows of least generators that make the same sums are the same. -/
theorem min_unique {s t : List Int} (hs : ∀ x ∈ s, 1 ≤ x) (ht : ∀ x ∈ t, 1 ≤ x) (as : Asc s) (at' : Asc t) (ms : Min s) (mt : Min t) (h : ∀ n, Gen s n ↔ Gen t n) : s = t :=
  asc_ext (asc_iff.1 as) (asc_iff.1 at') (fun x => by rw [min_atom hs as ms, min_atom ht at' mt, Atom.congr h])
theorem minV_asc {s : List Int} (hs : s.Pairwise (· < ·)) : Asc (minV s) := asc_iff.2 (minK_asc s hs s.length (Nat.le_refl _))
theorem minV_gen (s : List Int) (n : Int) : Gen (minV s) n ↔ Gen s n := by
  have := minK_gen s s.length (Nat.le_refl _) n
  rwa [List.take_length] at this
theorem minV_mem {s : List Int} {x : Int} (hx : x ∈ minV s) : x ∈ s := by
  have := minK_sub s s.length (Nat.le_refl _) x hx
  rwa [List.take_length] at this
/-- What is kept of a row is made of least generators. -/
theorem minK_min {s : List Int} (hs : s.Pairwise (· < ·)) (hp : ∀ x ∈ s, 1 ≤ x) : ∀ k, k ≤ s.length → Min (minK s k) := by
  intro k
  induction k with
  | zero => intro _ i h1 h2; simp [minK] at h2
  | succ k ih =>
    intro hk
    have hm := ih (by omega)
    rw [minK]
    by_cases hc : B (k = 0 ∨ ¬ Gen (s.take k) (s.getD k 0)) = true
    · rw [if_pos hc]
      rw [B_iff] at hc
      intro i h1 h2
      rw [List.length_append] at h2
      simp only [List.length_singleton] at h2
      by_cases e : i < (minK s k).length
      · rw [List.take_append_of_le_length (by omega), List.getD_eq_getElem?_getD, List.getElem?_append_left e, ← List.getD_eq_getElem?_getD]
        exact hm i h1 e
      · have e2 : i = (minK s k).length := by omega
        subst e2
        rw [List.take_append_of_le_length (Nat.le_refl _), List.take_length, List.getD_eq_getElem?_getD, List.getElem?_append_right (Nat.le_refl _), Nat.sub_self]
        simp only [List.getElem?_cons_zero, Option.getD_some]
        rw [minK_gen s k (by omega)]
        rcases hc with hc | hc
        · subst hc; simp [minK] at h1
        · exact hc
    · rw [if_neg hc, List.append_nil]; exact hm
theorem minV_min {s : List Int} (hs : s.Pairwise (· < ·)) (hp : ∀ x ∈ s, 1 ≤ x) : Min (minV s) := minK_min hs hp s.length (Nat.le_refl _)
theorem SG.gap_iff {s : List Int} (h : SG s) (x : Nat) : (x : Int) ∉ gapsV s ↔ Gen s (x : Int) := by
  rw [gapsV_mem h]
  constructor
  · intro hh
    apply Classical.byContradiction
    intro hc
    exact hh ⟨by omega, hc⟩
  · intro hg hh; exact hh.2 hg
theorem SG.closed {s : List Int} (h : SG s) : Closed (gapsV s) := by
  intro a b ha hb
  rw [h.gap_iff] at ha hb ⊢
  have := ha.sum hb
  rwa [← Int.natCast_add] at this
/-- FromGaps' answer. -/
noncomputable def fgV (l : List Int) : List Int × Bool := if B (GapL l ∧ Closed l ∧ SG (irrL l 401)) = true then (irrL l 401, true) else ([], false)
theorem fgV_true {l : List Int} (h : (fgV l).2 = true) : SG (fgV l).1 ∧ gapsV (fgV l).1 = l := by
  unfold fgV at h ⊢
  split at h
  · rename_i hb
    rw [if_pos hb]
    obtain ⟨h1, h2, h3⟩ := B_iff.1 hb
    exact ⟨h3, irr_gaps h1 h2 (F := 199) (fun x hx => by have := h1.2 x hx; omega) (by omega) h3⟩
  · simp at h
theorem fgV_length (l : List Int) : (fgV l).1.length ≤ 401 := by
  unfold fgV
  split
  · exact irrL_length l 401
  · simp
/-- The row of gaps that small elements and a conductor tell. -/
noncomputable def elGaps (sm : List Int) (c : Int) : List Int := scanV (fun n => !B ((n : Int) ∈ sm)) (c - 1).toNat 1
theorem elGaps_length (sm : List Int) {c : Int} (hc : c ≤ 200) : (elGaps sm c).length ≤ 200 := by
  have := scanV_length (fun n => !B ((n : Int) ∈ sm)) (c - 1).toNat 1
  unfold elGaps; omega
/-- FromElements' answer. -/
noncomputable def feV (sm : List Int) (c : Int) : List Int × Bool :=
  if B ((0 ≤ c ∧ c ≤ 200) ∧ (fgV (elGaps sm c)).2 = true ∧ frobV (fgV (elGaps sm c)).1 + 1 = c ∧ smallV (fgV (elGaps sm c)).1 c.toNat = sm) = true then ((fgV (elGaps sm c)).1, true) else ([], false)
theorem feV_length (sm : List Int) (c : Int) : (feV sm c).1.length ≤ 1000 := by
  unfold feV
  split
  · exact Nat.le_trans (fgV_length (elGaps sm c)) (by omega)
  · simp
theorem feV_true {sm : List Int} {c : Int} (h : (feV sm c).2 = true) : SG (feV sm c).1 ∧ frobV (feV sm c).1 + 1 = c ∧ smallV (feV sm c).1 (frobV (feV sm c).1 + 1).toNat = sm := by
  unfold feV at h ⊢
  split at h
  · rename_i hb
    rw [if_pos hb]
    obtain ⟨_, h2, h3, h4⟩ := B_iff.1 hb
    refine ⟨(fgV_true h2).1, h3, ?_⟩
    show smallV _ (frobV (fgV (elGaps sm c)).1 + 1).toNat = sm
    rw [h3]; exact h4
  · simp at h
theorem IsSort.length {l s : List Int} (h : IsSort l s) : s.length ≤ l.length := by
  have hn : s.Nodup := h.1.imp (fun hlt => by omega)
  exact hn.length_le_of_subset (fun x hx => (h.2 x).1 hx)
/-- What FromGens answers. -/
def GeOk (l : List Int) : Prop := (∀ x ∈ l, 1 ≤ x ∧ x ≤ 60) ∧ 1 ≤ l.length ∧ l.length ≤ 20
def GeV (l : List Int) (r : List Int × Bool) : Prop := (∃ s, IsSort l s ∧ GeOk l ∧ SG (minV s) ∧ r = (minV s, true)) ∨ ((¬ ∃ s, IsSort l s ∧ GeOk l ∧ SG (minV s)) ∧ r = ([], false))
theorem GeV.unique {l : List Int} {r r' : List Int × Bool} (h : GeV l r) (h' : GeV l r') : r = r' := by
  rcases h with ⟨s, h1, h2, h3, rfl⟩ | ⟨h1, rfl⟩
  · rcases h' with ⟨s', h1', h2', h3', rfl⟩ | ⟨h1', rfl⟩
    · rw [h1.unique h1']
    · exact absurd ⟨s, h1, h2, h3⟩ h1'
  · rcases h' with ⟨s', h1', h2', h3', rfl⟩ | ⟨h1', rfl⟩
    · exact absurd ⟨s', h1', h2', h3'⟩ h1
    · rfl
theorem GeV.length {l : List Int} {r : List Int × Bool} (h : GeV l r) : r.1.length ≤ 12 := by
  rcases h with ⟨s, h1, h2, h3, rfl⟩ | ⟨h1, rfl⟩
  · exact h3.1.2
  · simp
theorem GeV.sg {l : List Int} {r : List Int × Bool} (h : GeV l r) (hr : r.2 = true) : SG r.1 := by
  rcases h with ⟨s, h1, h2, h3, rfl⟩ | ⟨h1, rfl⟩
  · exact h3
  · simp at hr
/-- Of a semigroup's least generators, in whatever order, the semigroup. -/
theorem GeV.of {l : List Int} {r : List Int × Bool} (h : GeV l r) {s : List Int} (hs : SG s) (ho : GeOk l) (hg : ∀ n, Gen l n ↔ Gen s n) {t : List Int} (ht : IsSort l t) : r = (s, true) := by
  have hpt : ∀ x ∈ t, 1 ≤ x := fun x hx => (ho.1 x ((ht.2 x).1 hx)).1
  have e : minV t = s := min_unique (fun x hx => hpt x (minV_mem hx)) hs.pos (minV_asc ht.1) hs.2.2.1 (minV_min ht.1 hpt) hs.2.2.2.2.1 (fun n => by
    rw [minV_gen, ← hg]
    exact ⟨Gen.sub (fun x hx => (ht.2 x).1 hx), Gen.sub (fun x hx => (ht.2 x).2 hx)⟩)
  rcases h with ⟨s', h1, h2, h3, rfl⟩ | ⟨h1, rfl⟩
  · rw [h1.unique ht, e]
  · exact absurd ⟨t, ht, ho, by rw [e]; exact hs⟩ h1
end Go.Proofs.YtbagfnppeidonaaM
