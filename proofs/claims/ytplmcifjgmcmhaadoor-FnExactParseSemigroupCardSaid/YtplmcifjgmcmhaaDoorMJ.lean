/- Plain law of joined strings. -/
import Derived.Test.YtplmcifjgmcmhaaDoorM0
import Derived.Lib.Join
import Derived.Laws.BytesArg
namespace Go.Proofs.YtplmcifjgmcmhaaDoorM
open Go.RowKit Go.Proofs.YtplmcifjgmcmhaaDoorW.PrintWords Go.Proofs.YtplmcifjgmcmhaaDoorW.PrintLast Go.Proofs.YtplmcifjgmcmhaaDoorW.PrintMore
set_option linter.unusedVariables false
set_option linter.unusedSimpArgs false
/-- The bytes of a list, as numbers. -/
def bnums (l : List UInt8) : List Int := l.map fun b => (b.toNat : Int)
theorem bnums_append (a b : List UInt8) : bnums (a ++ b) = bnums a ++ bnums b := by simp [bnums]
theorem bnums_length (a : List UInt8) : (bnums a).length = a.length := by simp [bnums]
theorem bnums_bytes (s : ByteArray) : bytesOf s = bnums s.data.toList := rfl
theorem strOfNums_bnums (l : List UInt8) : strOfNums (bnums l) = ⟨l.toArray⟩ := by
  unfold strOfNums bnums
  congr 2
  rw [List.map_map]
  have : ((fun n : Int => UInt8.ofNat n.toNat) ∘ fun b : UInt8 => (b.toNat : Int)) = id := by
    funext b
    simp
  rw [this, List.map_id]
/-- The join of the first numbers of a list. -/
def joinK (l : List ByteArray) (by_ : ByteArray) (j : Nat) : List UInt8 := Lib.join ((l.take j).map (·.data.toList)) by_.data.toList
theorem joinK_zero (l : List ByteArray) (by_ : ByteArray) : joinK l by_ 0 = [] := rfl
theorem joinK_one {l : List ByteArray} (by_ : ByteArray) (h : 0 < l.length) : joinK l by_ 1 = (l[0]).data.toList := by
  unfold joinK
  cases l with
  | nil => simp at h
  | cons x l => simp [Lib.join_one]
theorem joinK_succ {l : List ByteArray} (by_ : ByteArray) {j : Nat} (h1 : 1 ≤ j) (hj : j < l.length) : joinK l by_ (j + 1) = joinK l by_ j ++ by_.data.toList ++ (l[j]).data.toList := by
  cases l with
  | nil => simp at hj
  | cons x l =>
    obtain ⟨i, rfl⟩ : ∃ i, j = i + 1 := ⟨j - 1, by omega⟩
    unfold joinK
    rw [List.take_succ_cons, List.take_succ_cons, List.map_cons, List.map_cons, Lib.join_cons, Lib.join_cons]
    have hi : i < l.length := by simpa using hj
    have := Lib.joinTail_take_succ by_.data.toList (l.map (·.data.toList)) i (l[i]).data.toList (by simp [hi])
    rw [← List.map_take, ← List.map_take] at this
    rw [this]
    simp
theorem joinK_length (l : List ByteArray) (by_ : ByteArray) (j : Nat) : (joinK l by_ j).length ≤ Lib.lens (l.map (·.data.toList)) + by_.size * l.length := by
  unfold joinK
  have hl : Lib.lens ((l.take j).map (·.data.toList)) ≤ Lib.lens (l.map (·.data.toList)) := by
    rw [List.map_take]
    exact Lib.lens_take_le _ _
  have e : by_.data.toList.length = by_.size := data_length _
  cases hc : l.take j with
  | nil => simp [Lib.join_nil]
  | cons x r =>
    rw [hc] at hl
    rw [List.map_cons, Lib.join_cons, List.length_append, Lib.joinTail_length, e, List.length_map]
    have h1 : (x :: r).length ≤ l.length := by rw [← hc, List.length_take]; omega
    have h2 : by_.size * r.length ≤ by_.size * l.length := Nat.mul_le_mul_left _ (by simp at h1; omega)
    simp only [Lib.lens, List.map_cons, List.sum_cons] at hl ⊢
    omega
end Go.Proofs.YtplmcifjgmcmhaaDoorM
