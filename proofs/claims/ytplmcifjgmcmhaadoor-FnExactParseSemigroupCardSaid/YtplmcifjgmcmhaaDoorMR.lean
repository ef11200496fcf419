/- Plain law of the reading of a list of numbers. -/
import Derived.Test.YtplmcifjgmcmhaaDoorMP
import Derived.Test.YtplmcifjgmcmhaaDoorMS
namespace Go.Proofs.YtplmcifjgmcmhaaDoorM
open Go.RowKit Go.Proofs.YtplmcifjgmcmhaaDoorW.PrintWords Go.Proofs.YtplmcifjgmcmhaaDoorW.PrintLast Go.Proofs.YtplmcifjgmcmhaaDoorW.PrintMore
set_option linter.unusedVariables false
set_option linter.unusedSimpArgs false
theorem splitFrom_small (s : ByteArray) (b : Int) : ∀ (d : Nat) (out : List ByteArray) (fr i : Nat), (∀ p ∈ out, p.size ≤ s.size) → ∀ p ∈ splitFrom s b d out fr i, p.size ≤ s.size := by
  intro d
  induction d with
  | zero =>
    intro out fr i h p hp
    rw [splitFrom, List.mem_append] at hp
    rcases hp with hp | hp
    · exact h p hp
    · rw [List.mem_singleton] at hp
      rw [hp, ByteArray.size_extract]
      omega
  | succ d ih =>
    intro out fr i h p hp
    rw [splitFrom] at hp
    split at hp
    · refine ih _ _ _ (fun q hq => ?_) p hp
      rw [List.mem_append] at hq
      rcases hq with hq | hq
      · exact h q hq
      · rw [List.mem_singleton] at hq
        rw [hq, ByteArray.size_extract]
        omega
    · exact ih _ _ _ h p hp
theorem splitV_small (s : ByteArray) (b : Int) : ∀ p ∈ splitV s b, p.size ≤ s.size := splitFrom_small s b s.size [] 0 0 (fun p hp => by cases hp)
/-- The numbers of a list of texts, from the j-th on. -/
def readFrom (ps : List ByteArray) : Nat → Nat → List Int → List Int × Bool
  | 0, _, acc => (acc, true)
  | d + 1, j, acc => if (readV (ps.getD j ByteArray.empty) 12).2 = true then readFrom ps d (j + 1) (acc ++ [(readV (ps.getD j ByteArray.empty) 12).1]) else ([], false)
theorem readFrom_length (ps : List ByteArray) : ∀ (d j : Nat) (acc : List Int), (readFrom ps d j acc).1.length ≤ acc.length + d := by
  intro d
  induction d with
  | zero => intro j acc; exact Nat.le_refl _
  | succ d ih =>
    intro j acc
    rw [readFrom]
    split
    · have := ih (j + 1) (acc ++ [(readV (ps.getD j ByteArray.empty) 12).1])
      rw [List.length_append, List.length_singleton] at this
      omega
    · simp
/-- The reading of a list of numbers. -/
def parseLV (s : ByteArray) : List Int × Bool := if s.toList = [110, 111, 110, 101] then ([], true) else readFrom (splitV s 44) (splitV s 44).length 0 []
theorem parseLV_length (s : ByteArray) : (parseLV s).1.length ≤ s.size + 1 := by
  unfold parseLV
  split
  · simp
  · have h1 := readFrom_length (splitV s 44) (splitV s 44).length 0 []
    have h2 := splitV_length s 44
    simp at h1
    omega
theorem part_small {ps : List ByteArray} {n : Nat} (h : ∀ p ∈ ps, p.size ≤ n) (j : Nat) : (ps.getD j ByteArray.empty).size ≤ n := by
  rw [List.getD_eq_getElem?_getD]
  by_cases hj : j < ps.length
  · rw [List.getElem?_eq_getElem hj]
    exact h _ (List.getElem_mem hj)
  · rw [List.getElem?_eq_none (by omega)]
    exact Nat.zero_le _
end Go.Proofs.YtplmcifjgmcmhaaDoorM
