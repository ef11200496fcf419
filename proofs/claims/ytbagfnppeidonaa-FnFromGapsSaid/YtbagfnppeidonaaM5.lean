/- Plain law: mirrored numbers, the n-th element, sums of quotients. -/
import Derived.Test.YtbagfnppeidonaaM4
namespace Go.Proofs.YtbagfnppeidonaaM
open Go.RowKit Go.Proofs.YtbagfnppeidonaaW.PrintWords Go.Proofs.YtbagfnppeidonaaW.PrintLast Go.Proofs.YtbagfnppeidonaaW.PrintMore
set_option linter.unusedVariables false
set_option linter.unusedSimpArgs false
/-- The sum of the quotients from place j on. -/
def quotsV (n : Int) : List Int → Int
  | [] => 0
  | x :: l => x / n + quotsV n l
def QV (g : List Int) (n v : Int) : Prop := ∃ L, ApV g n L ∧ v = if L.length = 0 then -1 else quotsV n L
theorem QV.unique {g : List Int} {n v v' : Int} (h : QV g n v) (h' : QV g n v') : v = v' := by
  obtain ⟨L, a, rfl⟩ := h
  obtain ⟨L', a', rfl⟩ := h'
  rw [a.unique a']
end Go.Proofs.YtbagfnppeidonaaM
