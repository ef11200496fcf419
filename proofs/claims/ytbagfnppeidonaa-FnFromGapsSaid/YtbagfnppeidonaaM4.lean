/- Plain law of scans: gaps, small elements, the greatest gap, least elements of classes; marks on rows. -/
import Derived.Test.YtbagfnppeidonaaM3
namespace Go.Proofs.YtbagfnppeidonaaM
open Go.RowKit Go.Proofs.YtbagfnppeidonaaW.PrintWords Go.Proofs.YtbagfnppeidonaaW.PrintLast Go.Proofs.YtbagfnppeidonaaW.PrintMore
set_option linter.unusedVariables false
set_option linter.unusedSimpArgs false
/-- The numbers from j on, d of them, for which P holds. -/
def scanV (P : Nat → Bool) : Nat → Nat → List Int
  | 0, _ => []
  | d + 1, j => (if P j = true then [(j : Int)] else []) ++ scanV P d (j + 1)
theorem scanV_mem (P : Nat → Bool) : ∀ (d j : Nat) (x : Int), x ∈ scanV P d j ↔ ∃ i : Nat, j ≤ i ∧ i < j + d ∧ P i = true ∧ x = (i : Int) := by
  intro d
  induction d with
  | zero =>
    intro j x
    simp only [scanV, List.not_mem_nil, false_iff]
    rintro ⟨i, h1, h2, _⟩
    omega
  | succ d ih =>
    intro j x
    rw [scanV, List.mem_append, ih]
    constructor
    · rintro (h | ⟨i, h1, h2, h3, h4⟩)
      · split at h
        · exact ⟨j, by omega, by omega, by assumption, List.mem_singleton.1 h⟩
        · simp at h
      · exact ⟨i, by omega, by omega, h3, h4⟩
    · rintro ⟨i, h1, h2, h3, h4⟩
      by_cases e : i = j
      · subst e
        left
        rw [if_pos h3, h4]
        exact List.mem_singleton.2 rfl
      · exact .inr ⟨i, by omega, by omega, h3, h4⟩
theorem scanV_asc (P : Nat → Bool) : ∀ (d j : Nat), (scanV P d j).Pairwise (· < ·) := by
  intro d
  induction d with
  | zero => intro j; exact .nil
  | succ d ih =>
    intro j
    rw [scanV, List.pairwise_append]
    refine ⟨by split <;> simp, ih (j + 1), fun a ha b hb => ?_⟩
    obtain ⟨i, h1, h2, h3, rfl⟩ := (scanV_mem P d (j + 1) b).1 hb
    split at ha
    · rw [List.mem_singleton.1 ha]; omega
    · simp at ha
theorem scanV_length (P : Nat → Bool) : ∀ (d j : Nat), (scanV P d j).length ≤ d := by
  intro d
  induction d with
  | zero => intro j; simp [scanV]
  | succ d ih =>
    intro j
    rw [scanV, List.length_append]
    have := ih (j + 1)
    split <;> simp <;> omega
theorem scanV_append (P : Nat → Bool) : ∀ (d e j : Nat), scanV P (d + e) j = scanV P d j ++ scanV P e (j + d) := by
  intro d
  induction d with
  | zero => intro e j; simp [scanV]
  | succ d ih =>
    intro e j
    rw [show d + 1 + e = (d + e) + 1 by omega, scanV, scanV, ih, List.append_assoc]
    rw [show j + 1 + d = j + (d + 1) by omega]
/-- Is it a sum? -/
noncomputable def gB (g : List Int) (n : Nat) : Bool := B (Gen g (n : Int))
theorem gB_iff {g : List Int} {n : Nat} : gB g n = true ↔ Gen g (n : Int) := B_iff
theorem nB_iff {g : List Int} {n : Nat} : (!gB g n) = true ↔ ¬ Gen g (n : Int) := by
  rw [← gB_iff]; cases gB g n <;> simp
noncomputable def gapsV (g : List Int) : List Int := scanV (fun n => !gB g n) 200 0
theorem gapsV_mem {g : List Int} (h : SG g) (x : Int) : x ∈ gapsV g ↔ 0 ≤ x ∧ ¬ Gen g x := by
  unfold gapsV
  rw [scanV_mem]
  constructor
  · rintro ⟨i, h1, h2, h3, rfl⟩
    exact ⟨by omega, nB_iff.1 h3⟩
  · rintro ⟨h1, h2⟩
    have h3 : x < 200 := by
      apply Classical.byContradiction
      intro hc
      exact h2 (h.2.2.2.2.2 x (by omega))
    refine ⟨x.toNat, by omega, by omega, ?_, by omega⟩
    rw [nB_iff, Int.toNat_of_nonneg h1]
    exact h2
theorem gapsV_range {g : List Int} (h : SG g) {x : Int} (hx : x ∈ gapsV g) : 1 ≤ x ∧ x ≤ 199 := by
  obtain ⟨h1, h2⟩ := (gapsV_mem h x).1 hx
  refine ⟨?_, ?_⟩
  · by_cases e : x = 0
    · rw [e] at h2; exact absurd .zero h2
    · omega
  · apply Classical.byContradiction
    intro hc
    exact h2 (h.2.2.2.2.2 x (by omega))
theorem gapsV_asc (g : List Int) : (gapsV g).Pairwise (· < ·) := scanV_asc _ _ _
theorem gapsV_length (g : List Int) : (gapsV g).length ≤ 200 := scanV_length _ _ _
theorem scanV_cons (P : Nat → Bool) (d j : Nat) : scanV P (d + 1) j = (if P j = true then [(j : Int)] else []) ++ scanV P d (j + 1) := rfl
theorem gaps_from_one {g : List Int} : scanV (fun n => !gB g n) 199 1 = gapsV g := by
  have h := scanV_cons (fun n => !gB g n) 199 0
  have h0 : ¬ (!gB g 0) = true := fun hc => (nB_iff (g := g) (n := 0)).1 hc .zero
  rw [if_neg h0] at h
  exact h.symm
theorem gaps_to_200 {g : List Int} (h : SG g) : scanV (fun n => !gB g n) 201 0 = gapsV g := by
  have e := scanV_append (fun n => !gB g n) 200 1 0
  have e2 := scanV_cons (fun n => !gB g n) 0 (0 + 200)
  have h0 : ¬ (!gB g (0 + 200)) = true := fun hc => (nB_iff (g := g) (n := 0 + 200)).1 hc (h.2.2.2.2.2 _ (by omega))
  rw [if_neg h0] at e2
  have e3 : scanV (fun n => !gB g n) (0 + 1) (0 + 200) = [] := e2
  have e4 : scanV (fun n => !gB g n) 1 (0 + 200) = [] := e3
  rw [e4, List.append_nil] at e
  exact e
/-- The last number of a list, or -1. -/
def lastV (l : List Int) : Int := if l.length = 0 then -1 else l.getD (l.length - 1) 0
noncomputable def frobV (g : List Int) : Int := lastV (if B (SG g) = true then gapsV g else [])
theorem frobV_sg {g : List Int} (h : SG g) : frobV g = lastV (gapsV g) := by unfold frobV; rw [if_pos (B_true h)]
theorem frobV_not {g : List Int} (h : ¬ SG g) : frobV g = -1 := by unfold frobV; rw [if_neg (by rw [B_iff]; exact h)]; rfl
theorem frobV_range (g : List Int) : -1 ≤ frobV g ∧ frobV g ≤ 199 := by
  by_cases h : SG g
  · rw [frobV_sg h]
    unfold lastV
    split
    · omega
    · have := gapsV_range h (getD_mem (l := gapsV g) (j := (gapsV g).length - 1) (by omega))
      omega
  · rw [frobV_not h]; omega
noncomputable def smallV (g : List Int) (m : Nat) : List Int := scanV (gB g) m 0
/-- Least elements of the classes modulo n. -/
def IsAp (g : List Int) (n : Nat) (L : List Int) : Prop := L.length = n ∧ ∀ r, r < n → LeastIn g n r (L.getD r 0)
def ApV (g : List Int) (n : Int) (L : List Int) : Prop := (¬ (SG g ∧ Gen g n ∧ 1 ≤ n ∧ n ≤ 60) ∧ L = []) ∨ ((SG g ∧ Gen g n ∧ 1 ≤ n ∧ n ≤ 60) ∧ IsAp g n.toNat L)
theorem IsAp.unique {g : List Int} {n : Nat} {L L' : List Int} (h : IsAp g n L) (h' : IsAp g n L') : L = L' := by
  apply List.ext_getElem (h.1.trans h'.1.symm)
  intro i h1 h2
  have a := (h.2 i (by have := h.1; omega)).unique (h'.2 i (by have := h.1; omega))
  rwa [getD_get h1, getD_get h2] at a
theorem ApV.unique {g : List Int} {n : Int} {L L' : List Int} (h : ApV g n L) (h' : ApV g n L') : L = L' := by
  rcases h with ⟨h1, rfl⟩ | ⟨h1, h2⟩
  · rcases h' with ⟨_, rfl⟩ | ⟨h1', _⟩
    · rfl
    · exact absurd h1' h1
  · rcases h' with ⟨h1', _⟩ | ⟨_, h2'⟩
    · exact absurd h1 h1'
    · exact h2.unique h2'
theorem LeastIn.bound {g : List Int} (h : SG g) {n : Nat} (hn : 1 ≤ n) {r : Nat} (hr : r < n) {w : Int} (hw : LeastIn g n r w) : 0 ≤ w ∧ w < 200 + n := by
  refine ⟨hw.1.nonneg h.pos, ?_⟩
  have m0 := Int.emod_nonneg ((r : Int) - 200) (show (n : Int) ≠ 0 by omega)
  have m1 := Int.emod_lt_of_pos ((r : Int) - 200) (show (0 : Int) < (n : Int) by omega)
  have := hw.2.2 (200 + ((r : Int) - 200) % (n : Int)) (h.2.2.2.2.2 _ (by omega)) (by
    rw [Int.add_emod_emod, show 200 + ((r : Int) - 200) = (r : Int) by omega, Int.emod_eq_of_lt (by omega) (by omega)])
  omega
theorem ApV.length {g : List Int} {n : Int} {L : List Int} (h : ApV g n L) : L.length ≤ 1000000 := by
  rcases h with ⟨_, rfl⟩ | ⟨h1, h2⟩
  · simp
  · have := h2.1; omega
theorem smallV_length (g : List Int) : (smallV g (frobV g + 1).toNat).length ≤ 1000 := by
  have h1 := scanV_length (gB g) (frobV g + 1).toNat 0
  have h2 := frobV_range g
  unfold smallV; omega
end Go.Proofs.YtbagfnppeidonaaM
