/- Plain law of the texts of semigroups. -/
import Derived.Test.YtplmcifjgmcmhaaDoorMN
import Derived.Test.YtplmcifjgmcmhaaDoorM4
namespace Go.Proofs.YtplmcifjgmcmhaaDoorM
open Go.RowKit Go.Proofs.YtplmcifjgmcmhaaDoorW.PrintWords Go.Proofs.YtplmcifjgmcmhaaDoorW.PrintLast Go.Proofs.YtplmcifjgmcmhaaDoorW.PrintMore
set_option linter.unusedVariables false
set_option linter.unusedSimpArgs false
theorem listB_size (l : List Int) (h : ∀ x ∈ l, -9223372036854775808 ≤ x ∧ x ≤ 9223372036854775807) : (listB l).size ≤ 21 * l.length + 4 := by
  unfold listB
  by_cases e : l = []
  · rw [if_pos e]
    show (4 : Nat) ≤ _
    omega
  · rw [if_neg e, ba_size]
    have h1 := joinK_length (l.map itoaB) ⟨#[44]⟩ (l.map itoaB).length
    unfold joinK at h1
    rw [List.take_length, List.length_map] at h1
    have h2 := lens_texts l h
    have h3 : (⟨#[44]⟩ : ByteArray).size = 1 := rfl
    have h4 : (⟨#[44]⟩ : ByteArray).data.toList = [44] := rfl
    rw [h3] at h1
    rw [h4] at h1
    omega
/-- The text of a semigroup. -/
noncomputable def sgB (g : List Int) : ByteArray := if B (SG g) = true then (⟨#[60]⟩ ++ listB g) ++ ⟨#[62]⟩ else ⟨#[]⟩
noncomputable def gapB (g : List Int) : ByteArray := if B (SG g) = true then listB (gapsV g) else ⟨#[]⟩
theorem SG.range {g : List Int} (h : SG g) : ∀ x ∈ g, -9223372036854775808 ≤ x ∧ x ≤ 9223372036854775807 := fun x hx => by
  have := h.2.1 x hx
  omega
theorem gapsV_wide {g : List Int} (h : SG g) : ∀ x ∈ gapsV g, -9223372036854775808 ≤ x ∧ x ≤ 9223372036854775807 := fun x hx => by
  have := gapsV_range h hx
  omega
end Go.Proofs.YtplmcifjgmcmhaaDoorM
