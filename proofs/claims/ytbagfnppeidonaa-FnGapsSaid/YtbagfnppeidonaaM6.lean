/- Plain law: pseudo-Frobenius numbers, type, special gaps, coordinates. -/
import Derived.Test.YtbagfnppeidonaaM5
namespace Go.Proofs.YtbagfnppeidonaaM
open Go.RowKit Go.Proofs.YtbagfnppeidonaaW.PrintWords Go.Proofs.YtbagfnppeidonaaW.PrintLast Go.Proofs.YtbagfnppeidonaaW.PrintMore
set_option linter.unusedVariables false
set_option linter.unusedSimpArgs false
/-- Every number of l, put on top of x, lies in the semigroup. -/
noncomputable def allB (g : List Int) (x : Int) (l : List Int) : Bool := B (∀ y ∈ l, Gen g (x + y))
theorem allB_nil (g : List Int) (x : Int) : allB g x [] = true := B_true (fun y hy => absurd hy List.not_mem_nil)
theorem allB_cons (g : List Int) (x y : Int) (l : List Int) : allB g x (y :: l) = (B (Gen g (x + y)) && allB g x l) := by
  rw [Bool.eq_iff_iff, Bool.and_eq_true]
  unfold allB
  rw [B_iff, B_iff, B_iff]
  exact ⟨fun h => ⟨h y (List.mem_cons_self ..), fun z hz => h z (List.mem_cons_of_mem _ hz)⟩, fun h z hz => by
    rcases List.mem_cons.1 hz with rfl | hz
    · exact h.1
    · exact h.2 z hz⟩
noncomputable def pfL (g : List Int) : List Int := (gapsV g).filter (fun x => allB g x g)
noncomputable def pfV (g : List Int) : List Int := if B (SG g) = true then pfL g else []
theorem pfV_sg {g : List Int} (h : SG g) : pfV g = pfL g := by unfold pfV; rw [if_pos (B_true h)]
theorem pfV_not {g : List Int} (h : ¬ SG g) : pfV g = [] := by unfold pfV; rw [if_neg (by rw [B_iff]; exact h)]
theorem pfL_length (g : List Int) : (pfL g).length ≤ 200 := Nat.le_trans (List.length_filter_le ..) (gapsV_length g)
theorem pfV_length (g : List Int) : (pfV g).length ≤ 200 := by
  unfold pfV
  split
  · exact pfL_length g
  · simp
theorem pfL_gap {g : List Int} {x : Int} (hx : x ∈ pfL g) : x ∈ gapsV g := (List.mem_filter.1 hx).1
theorem filter_drop_cons {α : Type} (p : α → Bool) {l : List α} {j : Nat} (hj : j < l.length) : (l.drop j).filter p = (if p l[j] = true then [l[j]] else []) ++ (l.drop (j + 1)).filter p := by
  rw [List.drop_eq_getElem_cons hj, List.filter_cons]
  split <;> rfl
def PFV (g w : List Int) : Prop := w = pfV g
theorem PFV.unique {g w w' : List Int} (h : PFV g w) (h' : PFV g w') : w = w' := h.trans h'.symm
theorem PFV.length {g w : List Int} (h : PFV g w) : w.length ≤ 1000000 := by rw [h]; have := pfV_length g; omega
noncomputable def typeV (g : List Int) : Int := if B (SG g) = true then (if (gapsV g).length = 0 then 1 else ((pfL g).length : Int)) else 0
theorem pfL_pos {g : List Int} (h : SG g) (h0 : (gapsV g).length ≠ 0) : 1 ≤ (pfL g).length := by
  have e : frobV g = (gapsV g).getD ((gapsV g).length - 1) 0 := by rw [frobV_sg h, lastV, if_neg h0]
  have hm : frobV g ∈ gapsV g := by rw [e]; exact getD_mem (by omega)
  have hp := gapsV_range h hm
  have : frobV g ∈ pfL g := List.mem_filter.2 ⟨hm, B_true (fun y hy => frobV_above h (by have := h.pos y hy; omega) (by have := h.pos y hy; omega))⟩
  exact List.length_pos_of_mem this
noncomputable def spL (g : List Int) : List Int := (pfV g).filter (fun x => B (Gen g (2 * x)))
def SpV (g w : List Int) : Prop := w = spL g
theorem SpV.unique {g w w' : List Int} (h : SpV g w) (h' : SpV g w') : w = w' := h.trans h'.symm
theorem SpV.length {g w : List Int} (h : SpV g w) : w.length ≤ 1000000 := by
  rw [h]; have := pfV_length g; have h2 : (spL g).length ≤ (pfV g).length := List.length_filter_le ..; omega
theorem pfV_range {g : List Int} {x : Int} (hx : x ∈ pfV g) : SG g ∧ 1 ≤ x ∧ x ≤ 199 := by
  by_cases h : SG g
  · rw [pfV_sg h] at hx
    exact ⟨h, gapsV_range h (pfL_gap hx)⟩
  · rw [pfV_not h] at hx
    simp at hx
/-- The quotients of the least elements, the first left out. -/
def CoV (g w : List Int) : Prop := (¬ SG g ∧ w = []) ∨ (SG g ∧ ∃ L, IsAp g (g.getD 0 0).toNat L ∧ w = (L.drop 1).map (fun x => x / g.getD 0 0))
theorem CoV.unique {g w w' : List Int} (h : CoV g w) (h' : CoV g w') : w = w' := by
  rcases h with ⟨h1, rfl⟩ | ⟨h1, L, hL, rfl⟩
  · rcases h' with ⟨_, rfl⟩ | ⟨h2, _⟩
    · rfl
    · exact absurd h2 h1
  · rcases h' with ⟨h2, _⟩ | ⟨_, L', hL', rfl⟩
    · exact absurd h1 h2
    · rw [hL.unique hL']
theorem CoV.length {g w : List Int} (h : CoV g w) : w.length ≤ 1000000 := by
  rcases h with ⟨_, rfl⟩ | ⟨h1, L, hL, rfl⟩
  · simp
  · have := hL.1; have := h1.head; simp; omega
end Go.Proofs.YtbagfnppeidonaaM
