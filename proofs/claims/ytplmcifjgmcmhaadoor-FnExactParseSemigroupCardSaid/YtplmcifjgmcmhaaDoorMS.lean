/- Plain law of strings: parts of a string at a separator; marks. -/
import Derived.Test.YtplmcifjgmcmhaaDoorM0
namespace Go.Proofs.YtplmcifjgmcmhaaDoorM
open Go.RowKit Go.Proofs.YtplmcifjgmcmhaaDoorW.PrintWords Go.Proofs.YtplmcifjgmcmhaaDoorW.PrintLast Go.Proofs.YtplmcifjgmcmhaaDoorW.PrintMore
set_option linter.unusedVariables false
set_option linter.unusedSimpArgs false
/-- The parts from index i on, d bytes before the end; the open part begins at fr. -/
def splitFrom (s : ByteArray) (b : Int) : Nat → List ByteArray → Nat → Nat → List ByteArray
  | 0, out, fr, _ => out ++ [s.extract fr s.size]
  | d + 1, out, fr, i => if bt s (i : Int) = b then splitFrom s b d (out ++ [s.extract fr i]) (i + 1) (i + 1) else splitFrom s b d out fr (i + 1)
def splitV (s : ByteArray) (b : Int) : List ByteArray := splitFrom s b s.size [] 0 0
theorem splitFrom_length (s : ByteArray) (b : Int) : ∀ (d : Nat) (out : List ByteArray) (fr i : Nat), (splitFrom s b d out fr i).length ≤ out.length + d + 1 ∧ out.length + 1 ≤ (splitFrom s b d out fr i).length := by
  intro d
  induction d with
  | zero => intro out fr i; simp [splitFrom]
  | succ d ih =>
    intro out fr i
    rw [splitFrom]
    split
    · have := ih (out ++ [s.extract fr i]) (i + 1) (i + 1)
      simp at this; omega
    · have := ih out fr (i + 1); omega
theorem splitV_length (s : ByteArray) (b : Int) : (splitV s b).length ≤ s.size + 1 := by
  have := (splitFrom_length s b s.size [] 0 0).1
  simpa [splitV] using this
/-- A list of marks, from k on. -/
def marks (mt : Int → ByteArray) : Nat → Int → List ByteArray
  | 0, _ => []
  | n + 1, k => mt k :: marks mt n (k + 1)
theorem marks_length (mt : Int → ByteArray) : ∀ (n : Nat) (k : Int), (marks mt n k).length = n := by
  intro n
  induction n with
  | zero => intro k; rfl
  | succ n ih => intro k; simp [marks, ih]
theorem marks_get (mt : Int → ByteArray) : ∀ (n : Nat) (k : Int) (j : Nat), j < n → (marks mt n k).getD j ByteArray.empty = mt (k + j) := by
  intro n
  induction n with
  | zero => intro k j hj; omega
  | succ n ih =>
    intro k j hj
    cases j with
    | zero => simp [marks]
    | succ j =>
      have := ih (k + 1) j (by omega)
      simp only [marks, List.getD_cons_succ]
      rw [this]; congr 1; omega
end Go.Proofs.YtplmcifjgmcmhaaDoorM
