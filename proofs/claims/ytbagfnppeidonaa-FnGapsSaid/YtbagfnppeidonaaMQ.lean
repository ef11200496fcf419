/- Plain law: what the library's sort and its compacting give: the numbers in ascending order, each once. -/
import Derived.Test.YtbagfnppeidonaaM3
import Derived.Lib.SlicesCompact
namespace Go.Proofs.YtbagfnppeidonaaM
open Go.RowKit Go.Proofs.YtbagfnppeidonaaW.PrintWords Go.Proofs.YtbagfnppeidonaaW.PrintLast Go.Proofs.YtbagfnppeidonaaW.PrintMore
set_option linter.unusedVariables false
set_option linter.unusedSimpArgs false
theorem bang_getD (l : List Int) (j : Nat) : l.toArray[j]! = l.getD j 0 := by
  by_cases h : j < l.length
  · simp [h]
  · simp [h]
theorem sorted_le {l : List Int} (h : l.Pairwise (· ≤ ·)) {i j : Nat} (hij : i ≤ j) (hj : j < l.length) : l.getD i 0 ≤ l.getD j 0 := by
  rw [List.pairwise_iff_getElem] at h
  by_cases e : i = j
  · rw [e]; omega
  · have := h i j (by omega) hj (by omega)
    rw [getD_get (by omega), getD_get hj]
    exact this
theorem compact_upto {l : List Int} (h : l.Pairwise (· ≤ ·)) : ∀ m, m ≤ l.length → (Lib.compactUpTo l.toArray m).Pairwise (· < ·) ∧ ∀ x, x ∈ Lib.compactUpTo l.toArray m ↔ x ∈ l.take m := by
  intro m
  induction m with
  | zero => intro _; simp [Lib.compactUpTo]
  | succ m ih =>
    intro hm
    obtain ⟨h1, h2⟩ := ih (by omega)
    rw [Lib.compactUpTo_succ, bang_getD]
    have ht : l.take (m + 1) = l.take m ++ [l.getD m 0] := by rw [List.take_succ_eq_append_getElem (by omega), getD_get (by omega)]
    rw [ht]
    by_cases hk : Lib.keeps l.toArray m = true
    · rw [if_pos hk]
      refine ⟨?_, fun x => by rw [List.mem_append, List.mem_append, h2]⟩
      rw [List.pairwise_append]
      refine ⟨h1, by simp, fun a ha b hb => ?_⟩
      rw [List.mem_singleton.1 hb]
      have ha' := (h2 a).1 ha
      obtain ⟨i, hi, e⟩ := mem_getD ha'
      rw [List.length_take] at hi
      have ea : a = l.getD i 0 := by
        rw [← e]
        simp only [List.getD_eq_getElem?_getD, List.getElem?_take]
        rw [if_pos (by omega)]
      unfold Lib.keeps at hk
      rw [bang_getD, bang_getD] at hk
      have hle := sorted_le h (i := i) (j := m - 1) (by omega) (by omega)
      have hle2 := sorted_le h (i := m - 1) (j := m) (by omega) (by omega)
      have hne : l.getD m 0 ≠ l.getD (m - 1) 0 := by
        simp only [Bool.or_eq_true, beq_iff_eq, bne_iff_ne, decide_eq_true_eq] at hk
        rcases hk with hk | hk
        · omega
        · first | exact hk | exact fun e => hk e.symm
      omega
    · rw [if_neg hk, List.append_nil]
      refine ⟨h1, fun x => ?_⟩
      rw [h2, List.mem_append, List.mem_singleton]
      refine ⟨.inl, fun hx => ?_⟩
      rcases hx with hx | rfl
      · exact hx
      · unfold Lib.keeps at hk
        rw [bang_getD, bang_getD] at hk
        simp only [Bool.or_eq_true, beq_iff_eq, bne_iff_ne, decide_eq_true_eq, not_or, Classical.not_not] at hk
        have e : l.getD m 0 = l.getD (m - 1) 0 := by first | exact hk.2 | exact hk.2.symm
        rw [e, getD_get (by omega), List.mem_take_iff_getElem]
        exact ⟨m - 1, by omega, rfl⟩
theorem sort_compact (l : List Int) : IsSort l (Lib.compact (l.mergeSort fun x y => decide (x ≤ y))) := by
  have h : (l.mergeSort fun x y => decide (x ≤ y)).Pairwise (· ≤ ·) := by
    have := List.pairwise_mergeSort (le := fun (x y : Int) => decide (x ≤ y)) (fun a b c h1 h2 => by simp at h1 h2 ⊢; omega) (fun a b => by simp; omega) l
    exact this.imp (fun h => by simpa using h)
  obtain ⟨h1, h2⟩ := compact_upto h _ (Nat.le_refl _)
  rw [List.take_length] at h2
  unfold Lib.compact
  exact ⟨h1, fun x => (h2 x).trans (List.mergeSort_perm l _).mem_iff⟩
end Go.Proofs.YtbagfnppeidonaaM
