/- Plain law of draws: bytes, and the semigroups that are drawn from a row of eight. -/
import Derived.Test.YtbagfnppeidonaaM8
namespace Go.Proofs.YtbagfnppeidonaaM
open Go.RowKit Go.Proofs.YtbagfnppeidonaaW.PrintWords Go.Proofs.YtbagfnppeidonaaW.PrintLast Go.Proofs.YtbagfnppeidonaaW.PrintMore
set_option linter.unusedVariables false
set_option linter.unusedSimpArgs false
theorem and255 (x : Int) : 0 ≤ Go.bits .and .i64 x 255 ∧ Go.bits .and .i64 x 255 ≤ 255 := by
  have h : (BitVec.ofInt IntKind.i64.bits x &&& BitVec.ofInt IntKind.i64.bits 255).toNat ≤ 255 := by
    rw [BitVec.toNat_and]
    exact Nat.le_trans Nat.and_le_right (by decide)
  have e : Go.bits .and .i64 x 255 = wrap64 (((BitVec.ofInt IntKind.i64.bits x &&& BitVec.ofInt IntKind.i64.bits 255).toNat : Nat) : Int) := by
    simp only [Go.bits]
    exact i64_w _
  rw [e, w64 (by omega) (by omega)]
  omega
/-- Sums, searched with so much fuel. -/
def genF (g : List Int) : Nat → Int → Bool
  | 0, n => n == 0
  | f + 1, n => n == 0 || g.any (fun x => decide (1 ≤ x ∧ x ≤ n) && genF g f (n - x))
theorem genF_of {g : List Int} (hp : ∀ x ∈ g, 1 ≤ x) : ∀ (f : Nat) (n : Int), n ≤ f → Gen g n → genF g f n = true := by
  intro f
  induction f with
  | zero =>
    intro n h1 h2
    have := h2.nonneg hp
    have e : n = 0 := by omega
    subst e
    rfl
  | succ f ih =>
    intro n h1 h2
    rw [genF]
    rcases h2.inv with rfl | ⟨x, hx, hg⟩
    · rfl
    · have x1 := hp x hx
      have x2 := hg.nonneg hp
      rw [Bool.or_eq_true, List.any_eq_true]
      right
      refine ⟨x, hx, ?_⟩
      rw [Bool.and_eq_true, decide_eq_true_eq]
      exact ⟨⟨x1, by omega⟩, ih (n - x) (by omega) hg⟩
theorem ends_of {g : List Int} {a : Int} (ha : a ∈ g) (ha1 : 1 ≤ a) (h : ∀ r, 0 ≤ r → r < a → ∃ w, Gen g w ∧ w ≤ 200 ∧ w % a = r) : ∀ n, 200 ≤ n → Gen g n := by
  intro n hn
  obtain ⟨w, h1, h2, h3⟩ := h (n % a) (Int.emod_nonneg _ (by omega)) (Int.emod_lt_of_pos _ (by omega))
  exact Gen.up ha ha1 h1 (by omega) h3.symm
theorem sgL_1 : SG [1] := by
  refine ⟨by simp, by simp, ?_, by decide, ?_, ?_⟩
  · rw [asc_iff]; simp
  · intro i h1 h2 hg
    simp at h2; omega
  · refine ends_of (a := 1) (by simp) (by omega) (fun r r0 r1 => ?_)
    have h3 : r = 0 := by omega
    subst h3
    · exact ⟨0, by simpa using Gen.zero (g := [1]), by omega, by decide⟩
theorem sgL_3_5 : SG [3, 5] := by
  refine ⟨by simp, by simp, ?_, by decide, ?_, ?_⟩
  · rw [asc_iff]; simp
  · intro i h1 h2 hg
    have h3 : i = 1 := by simp at h2; omega
    rcases h3 with rfl
    · have := genF_of (g := [3]) (by simp) 5 5 (by omega) (by simpa using hg)
      revert this; decide
  · refine ends_of (a := 3) (by simp) (by omega) (fun r r0 r1 => ?_)
    have h3 : r = 0 ∨ r = 1 ∨ r = 2 := by omega
    rcases h3 with rfl | rfl | rfl
    · exact ⟨0, by simpa using Gen.zero (g := [3, 5]), by omega, by decide⟩
    · exact ⟨10, by simpa using ((Gen.zero (g := [3, 5])).add (x := 5) (by simp)).add (x := 5) (by simp), by omega, by decide⟩
    · exact ⟨5, by simpa using (Gen.zero (g := [3, 5])).add (x := 5) (by simp), by omega, by decide⟩
theorem sgL_4_6_9 : SG [4, 6, 9] := by
  refine ⟨by simp, by simp, ?_, by decide, ?_, ?_⟩
  · rw [asc_iff]; simp
  · intro i h1 h2 hg
    have h3 : i = 1 ∨ i = 2 := by simp at h2; omega
    rcases h3 with rfl | rfl
    · have := genF_of (g := [4]) (by simp) 6 6 (by omega) (by simpa using hg)
      revert this; decide
    · have := genF_of (g := [4, 6]) (by simp) 9 9 (by omega) (by simpa using hg)
      revert this; decide
  · refine ends_of (a := 4) (by simp) (by omega) (fun r r0 r1 => ?_)
    have h3 : r = 0 ∨ r = 1 ∨ r = 2 ∨ r = 3 := by omega
    rcases h3 with rfl | rfl | rfl | rfl
    · exact ⟨0, by simpa using Gen.zero (g := [4, 6, 9]), by omega, by decide⟩
    · exact ⟨9, by simpa using (Gen.zero (g := [4, 6, 9])).add (x := 9) (by simp), by omega, by decide⟩
    · exact ⟨6, by simpa using (Gen.zero (g := [4, 6, 9])).add (x := 6) (by simp), by omega, by decide⟩
    · exact ⟨15, by simpa using ((Gen.zero (g := [4, 6, 9])).add (x := 6) (by simp)).add (x := 9) (by simp), by omega, by decide⟩
theorem sgL_3_4_5 : SG [3, 4, 5] := by
  refine ⟨by simp, by simp, ?_, by decide, ?_, ?_⟩
  · rw [asc_iff]; simp
  · intro i h1 h2 hg
    have h3 : i = 1 ∨ i = 2 := by simp at h2; omega
    rcases h3 with rfl | rfl
    · have := genF_of (g := [3]) (by simp) 4 4 (by omega) (by simpa using hg)
      revert this; decide
    · have := genF_of (g := [3, 4]) (by simp) 5 5 (by omega) (by simpa using hg)
      revert this; decide
  · refine ends_of (a := 3) (by simp) (by omega) (fun r r0 r1 => ?_)
    have h3 : r = 0 ∨ r = 1 ∨ r = 2 := by omega
    rcases h3 with rfl | rfl | rfl
    · exact ⟨0, by simpa using Gen.zero (g := [3, 4, 5]), by omega, by decide⟩
    · exact ⟨4, by simpa using (Gen.zero (g := [3, 4, 5])).add (x := 4) (by simp), by omega, by decide⟩
    · exact ⟨5, by simpa using (Gen.zero (g := [3, 4, 5])).add (x := 5) (by simp), by omega, by decide⟩
theorem sgL_6_9_20 : SG [6, 9, 20] := by
  refine ⟨by simp, by simp, ?_, by decide, ?_, ?_⟩
  · rw [asc_iff]; simp
  · intro i h1 h2 hg
    have h3 : i = 1 ∨ i = 2 := by simp at h2; omega
    rcases h3 with rfl | rfl
    · have := genF_of (g := [6]) (by simp) 9 9 (by omega) (by simpa using hg)
      revert this; decide
    · have := genF_of (g := [6, 9]) (by simp) 20 20 (by omega) (by simpa using hg)
      revert this; decide
  · refine ends_of (a := 6) (by simp) (by omega) (fun r r0 r1 => ?_)
    have h3 : r = 0 ∨ r = 1 ∨ r = 2 ∨ r = 3 ∨ r = 4 ∨ r = 5 := by omega
    rcases h3 with rfl | rfl | rfl | rfl | rfl | rfl
    · exact ⟨0, by simpa using Gen.zero (g := [6, 9, 20]), by omega, by decide⟩
    · exact ⟨49, by simpa using (((Gen.zero (g := [6, 9, 20])).add (x := 9) (by simp)).add (x := 20) (by simp)).add (x := 20) (by simp), by omega, by decide⟩
    · exact ⟨20, by simpa using (Gen.zero (g := [6, 9, 20])).add (x := 20) (by simp), by omega, by decide⟩
    · exact ⟨9, by simpa using (Gen.zero (g := [6, 9, 20])).add (x := 9) (by simp), by omega, by decide⟩
    · exact ⟨40, by simpa using ((Gen.zero (g := [6, 9, 20])).add (x := 20) (by simp)).add (x := 20) (by simp), by omega, by decide⟩
    · exact ⟨29, by simpa using ((Gen.zero (g := [6, 9, 20])).add (x := 9) (by simp)).add (x := 20) (by simp), by omega, by decide⟩
theorem sgL_5_7_9_11 : SG [5, 7, 9, 11] := by
  refine ⟨by simp, by simp, ?_, by decide, ?_, ?_⟩
  · rw [asc_iff]; simp
  · intro i h1 h2 hg
    have h3 : i = 1 ∨ i = 2 ∨ i = 3 := by simp at h2; omega
    rcases h3 with rfl | rfl | rfl
    · have := genF_of (g := [5]) (by simp) 7 7 (by omega) (by simpa using hg)
      revert this; decide
    · have := genF_of (g := [5, 7]) (by simp) 9 9 (by omega) (by simpa using hg)
      revert this; decide
    · have := genF_of (g := [5, 7, 9]) (by simp) 11 11 (by omega) (by simpa using hg)
      revert this; decide
  · refine ends_of (a := 5) (by simp) (by omega) (fun r r0 r1 => ?_)
    have h3 : r = 0 ∨ r = 1 ∨ r = 2 ∨ r = 3 ∨ r = 4 := by omega
    rcases h3 with rfl | rfl | rfl | rfl | rfl
    · exact ⟨0, by simpa using Gen.zero (g := [5, 7, 9, 11]), by omega, by decide⟩
    · exact ⟨11, by simpa using (Gen.zero (g := [5, 7, 9, 11])).add (x := 11) (by simp), by omega, by decide⟩
    · exact ⟨7, by simpa using (Gen.zero (g := [5, 7, 9, 11])).add (x := 7) (by simp), by omega, by decide⟩
    · exact ⟨18, by simpa using ((Gen.zero (g := [5, 7, 9, 11])).add (x := 7) (by simp)).add (x := 11) (by simp), by omega, by decide⟩
    · exact ⟨9, by simpa using (Gen.zero (g := [5, 7, 9, 11])).add (x := 9) (by simp), by omega, by decide⟩
theorem sgL_2_3 : SG [2, 3] := by
  refine ⟨by simp, by simp, ?_, by decide, ?_, ?_⟩
  · rw [asc_iff]; simp
  · intro i h1 h2 hg
    have h3 : i = 1 := by simp at h2; omega
    rcases h3 with rfl
    · have := genF_of (g := [2]) (by simp) 3 3 (by omega) (by simpa using hg)
      revert this; decide
  · refine ends_of (a := 2) (by simp) (by omega) (fun r r0 r1 => ?_)
    have h3 : r = 0 ∨ r = 1 := by omega
    rcases h3 with rfl | rfl
    · exact ⟨0, by simpa using Gen.zero (g := [2, 3]), by omega, by decide⟩
    · exact ⟨3, by simpa using (Gen.zero (g := [2, 3])).add (x := 3) (by simp), by omega, by decide⟩
theorem sgL_4_5_11 : SG [4, 5, 11] := by
  refine ⟨by simp, by simp, ?_, by decide, ?_, ?_⟩
  · rw [asc_iff]; simp
  · intro i h1 h2 hg
    have h3 : i = 1 ∨ i = 2 := by simp at h2; omega
    rcases h3 with rfl | rfl
    · have := genF_of (g := [4]) (by simp) 5 5 (by omega) (by simpa using hg)
      revert this; decide
    · have := genF_of (g := [4, 5]) (by simp) 11 11 (by omega) (by simpa using hg)
      revert this; decide
  · refine ends_of (a := 4) (by simp) (by omega) (fun r r0 r1 => ?_)
    have h3 : r = 0 ∨ r = 1 ∨ r = 2 ∨ r = 3 := by omega
    rcases h3 with rfl | rfl | rfl | rfl
    · exact ⟨0, by simpa using Gen.zero (g := [4, 5, 11]), by omega, by decide⟩
    · exact ⟨5, by simpa using (Gen.zero (g := [4, 5, 11])).add (x := 5) (by simp), by omega, by decide⟩
    · exact ⟨10, by simpa using ((Gen.zero (g := [4, 5, 11])).add (x := 5) (by simp)).add (x := 5) (by simp), by omega, by decide⟩
    · exact ⟨11, by simpa using (Gen.zero (g := [4, 5, 11])).add (x := 11) (by simp), by omega, by decide⟩
def drawn8 : List (List Int) := [[1], [3, 5], [4, 6, 9], [3, 4, 5], [6, 9, 20], [5, 7, 9, 11], [2, 3], [4, 5, 11]]
theorem drawn8_sg {g : List Int} (h : g ∈ drawn8) : SG g := by
  simp only [drawn8, List.mem_cons, List.not_mem_nil, or_false] at h
  rcases h with rfl | rfl | rfl | rfl | rfl | rfl | rfl | rfl
  · exact sgL_1
  · exact sgL_3_5
  · exact sgL_4_6_9
  · exact sgL_3_4_5
  · exact sgL_6_9_20
  · exact sgL_5_7_9_11
  · exact sgL_2_3
  · exact sgL_4_5_11
theorem ev_rounds {α : Type} {f : Nat → Option α} {r : α} (h : Ev f r) : ∃ k, f k = some r := by
  obtain ⟨K, hK⟩ := h
  exact ⟨K, hK K (Nat.le_refl _)⟩
end Go.Proofs.YtbagfnppeidonaaM
