/- Plain law: pseudo-Frobenius numbers, type, special gaps, coordinates. -/
import Derived.Test.YtbagfnppeidonaaM5
namespace Go.Proofs.YtbagfnppeidonaaM
open Go.RowKit Go.Proofs.YtbagfnppeidonaaW.PrintWords Go.Proofs.YtbagfnppeidonaaW.PrintLast Go.Proofs.YtbagfnppeidonaaW.PrintMore
set_option linter.unusedVariables false
set_option linter.unusedSimpArgs false
/-- Every number of l, put on top of x, lies in the semigroup. -/
noncomputable def allB (g : List Int) (x : Int) (l : List Int) : Bool := B (∀ y ∈ l, Gen g (x + y))
noncomputable def pfL (g : List Int) : List Int := (gapsV g).filter (fun x => allB g x g)
noncomputable def pfV (g : List Int) : List Int := if B (SG g) = true then pfL g else []
theorem pfL_length (g : List Int) : (pfL g).length ≤ 200 := Nat.le_trans (List.length_filter_le ..) (gapsV_length g)
theorem pfV_length (g : List Int) : (pfV g).length ≤ 200 := by
  unfold pfV
  split
  · exact pfL_length g
  · simp
def PFV (g w : List Int) : Prop := w = pfV g
theorem PFV.unique {g w w' : List Int} (h : PFV g w) (h' : PFV g w') : w = w' := h.trans h'.symm
theorem PFV.length {g w : List Int} (h : PFV g w) : w.length ≤ 1000000 := by rw [h]; have := pfV_length g; omega
noncomputable def spL (g : List Int) : List Int := (pfV g).filter (fun x => B (Gen g (2 * x)))
def SpV (g w : List Int) : Prop := w = spL g
theorem SpV.unique {g w w' : List Int} (h : SpV g w) (h' : SpV g w') : w = w' := h.trans h'.symm
theorem SpV.length {g w : List Int} (h : SpV g w) : w.length ≤ 1000000 := by
  rw [h]; have := pfV_length g; have h2 : (spL g).length ≤ (pfV g).length := List.length_filter_le ..; omega
/-- The quotients of the least elements, the first left out. -/
def CoV (g w : List Int) : Prop := (¬ SG g ∧ w = []) ∨ (SG g ∧ ∃ L, IsAp g (g.getD 0 0).toNat L ∧ w = (L.drop 1).map (fun x => x / g.getD 0 0))
theorem CoV.unique {g w w' : List Int} (h : CoV g w) (h' : CoV g w') : w = w' := by
  rcases h with ⟨h1, rfl⟩ | ⟨h1, L, hL, rfl⟩
  · rcases h' with ⟨_, rfl⟩ | ⟨h2, _⟩
    · rfl
    · exact absurd h2 h1
  · rcases h' with ⟨h2, _⟩ | ⟨_, L', hL', rfl⟩
    · exact absurd h1 h2
    · rw [hL.unique hL']
theorem CoV.length {g w : List Int} (h : CoV g w) : w.length ≤ 1000000 := by
  rcases h with ⟨_, rfl⟩ | ⟨h1, L, hL, rfl⟩
  · simp
  · have := hL.1; have := h1.head; simp; omega
end Go.Proofs.YtbagfnppeidonaaM
