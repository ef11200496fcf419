/- Plain law: elements are counted; gaps and small elements divide the numbers below the conductor. -/
import Derived.Test.YtbagfnppeidonaaMY
namespace Go.Proofs.YtbagfnppeidonaaM
open Go.RowKit Go.Proofs.YtbagfnppeidonaaW.PrintWords Go.Proofs.YtbagfnppeidonaaW.PrintLast Go.Proofs.YtbagfnppeidonaaW.PrintMore
set_option linter.unusedVariables false
set_option linter.unusedSimpArgs false
theorem asc_inj {l : List Int} (h : Asc l) {i j : Nat} (hi : i < l.length) (hj : j < l.length) (e : l.getD i 0 = l.getD j 0) : i = j := by
  rcases Nat.lt_trichotomy i j with c | c | c
  · have := asc_lt h (j - (i + 1)) i (by omega)
    rw [show i + 1 + (j - (i + 1)) = j by omega] at this
    omega
  · exact c
  · have := asc_lt h (i - (j + 1)) j (by omega)
    rw [show j + 1 + (i - (j + 1)) = i by omega] at this
    omega
/-- Where a number stands in a scan. -/
theorem scanV_place {P : Nat → Bool} {d n : Nat} (hn : n < d) (hp : P n = true) : (scanV P n 0).length < (scanV P d 0).length ∧ (scanV P d 0).getD (scanV P n 0).length 0 = (n : Int) := by
  have e := scanV_append P n (d - n) 0
  rw [show n + (d - n) = d by omega, Nat.zero_add] at e
  have e2 := scanV_cons P (d - n - 1) n
  rw [show d - n - 1 + 1 = d - n by omega, if_pos hp] at e2
  rw [e, e2]
  constructor
  · simp
  · rw [List.getD_eq_getElem?_getD, List.getElem?_append_right (Nat.le_refl _), Nat.sub_self]
    simp
theorem elem_index {g : List Int} {k : Int} (h : 0 ≤ elemV g k) : SG g ∧ (0 ≤ k ∧ k ≤ 200) ∧ Gen g (elemV g k) ∧ ((smallV g (elemV g k).toNat).length : Int) = k := by
  by_cases hs : SG g ∧ 0 ≤ k ∧ k ≤ 200
  · obtain ⟨h1, h2, h3⟩ := hs
    obtain ⟨n, rfl⟩ : ∃ n : Nat, k = (n : Int) := ⟨k.toNat, by omega⟩
    rw [elemV_sg h1 n (by omega)] at h ⊢
    have hl : n < (scanV (gB g) 601 0).length := by
      apply Classical.byContradiction
      intro hc
      rw [List.getD_eq_getElem?_getD, List.getElem?_eq_none (by omega)] at h
      simp at h
    have hm : (scanV (gB g) 601 0).getD n (-1) ∈ scanV (gB g) 601 0 := by rw [getD_of_lt hl (-1) 0]; exact getD_mem hl
    obtain ⟨q, _, hq2, hq3, hq4⟩ := (scanV_mem _ _ _ _).1 hm
    rw [hq4]
    refine ⟨h1, by omega, gB_iff.1 hq3, ?_⟩
    obtain ⟨p1, p2⟩ := scanV_place (d := 601) (by omega) hq3
    have := asc_inj (asc_iff.2 (scanV_asc _ _ _)) hl p1 (by rw [p2, ← hq4, getD_of_lt hl 0 (-1)])
    rw [Int.toNat_natCast]
    unfold smallV
    omega
  · rw [elemV_not hs] at h; omega
theorem index_elem {g : List Int} {n : Int} (h : contV g n = true) (hn : n ≤ 200) : elemV g ((smallV g n.toNat).length : Int) = n := by
  obtain ⟨h1, h2, h3⟩ := B_iff.1 h
  obtain ⟨q, rfl⟩ : ∃ q : Nat, n = (q : Int) := ⟨n.toNat, by omega⟩
  rw [Int.toNat_natCast]
  have hl : (smallV g q).length ≤ q := scanV_length _ _ _
  rw [elemV_sg h1 _ (by omega)]
  obtain ⟨p1, p2⟩ := scanV_place (d := 601) (by omega) (gB_iff.2 h3)
  unfold smallV
  rw [getD_of_lt p1 (-1) 0, p2]
theorem gaps_small {g : List Int} (h : SG g) : ((gapsV g).length : Int) + ((smallV g (frobV g + 1).toNat).length : Int) = frobV g + 1 := by
  have hr := frobV_range g
  have e1 : (gapsV g).length = cnt (fun n => !gB g n) (frobV g + 1).toNat := by
    unfold gapsV
    rw [scanV_cnt]
    have := cnt_more (P := fun n => !gB g n) (n := (frobV g + 1).toNat) (200 - (frobV g + 1).toNat) (fun i h1 h2 => by
      rw [gB_iff.2 (frobV_above h (n := (i : Int)) (by omega) (by omega))]; rfl)
    rwa [show (frobV g + 1).toNat + (200 - (frobV g + 1).toNat) = 200 by omega] at this
  have e2 : cnt (fun _ => true) (frobV g + 1).toNat = cnt (fun n => !gB g n) (frobV g + 1).toNat + cnt (gB g) (frobV g + 1).toNat := cnt_add _ (fun i _ => by cases gB g i <;> rfl)
  rw [cnt_all] at e2
  unfold smallV
  rw [scanV_cnt, e1]
  omega
theorem frob_out (g : List Int) : contV g (frobV g) = false := by
  refine B_false ?_
  rintro ⟨h1, h2, h3⟩
  exact frobV_gap h1 h2 h3
theorem gaps_small_apart {g : List Int} (h : SG g) {m : Nat} {x : Int} (hx : x ∈ gapsV g) : x ∉ smallV g m := by
  intro hy
  obtain ⟨i, _, _, h1, rfl⟩ := (scanV_mem _ _ _ _).1 hy
  exact ((gapsV_mem h _).1 hx).2 (gB_iff.1 h1)
end Go.Proofs.YtbagfnppeidonaaM
