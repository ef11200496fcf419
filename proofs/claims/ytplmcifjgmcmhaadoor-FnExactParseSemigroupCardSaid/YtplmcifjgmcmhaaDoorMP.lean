/- Plain law of the reading of a number. -/
import Derived.Test.YtplmcifjgmcmhaaDoorMN
import Derived.Laws.Strings
namespace Go.Proofs.YtplmcifjgmcmhaaDoorM
open Go.RowKit Go.Proofs.YtplmcifjgmcmhaaDoorW.PrintWords Go.Proofs.YtplmcifjgmcmhaaDoorW.PrintLast Go.Proofs.YtplmcifjgmcmhaaDoorW.PrintMore
set_option linter.unusedVariables false
set_option linter.unusedSimpArgs false
theorem wrap_range (n : Int) : -9223372036854775808 ≤ wrap64 n ∧ wrap64 n ≤ 9223372036854775807 := by
  unfold wrap64
  omega
theorem ba_len (a : ByteArray) : a.data.toList.length = a.size := data_length _
theorem ba_ext {a b : ByteArray} (h : a.data.toList = b.data.toList) : a = b := by
  apply ByteArray.ext
  exact Array.toList_inj.1 h
theorem ba_eq (a b : ByteArray) : a.toList = b.toList ↔ a = b := by
  rw [ByteArray.toList_eq, ByteArray.toList_eq]
  exact ⟨ba_ext, fun h => by rw [h]⟩
theorem btr (s : ByteArray) (i : Int) : 0 ≤ bt s i ∧ bt s i ≤ 255 := by
  unfold bt
  split
  · rename_i h
    have := (s[i.toNat]'h).toNat_lt
    omega
  · omega
/-- The number that the digits tell, from the j-th on. -/
def accD (t : ByteArray) : Nat → Nat → Int → Option Int
  | 0, _, acc => some acc
  | d + 1, j, acc => if bt t (j : Int) < 48 then none else if bt t (j : Int) > 57 then none else accD t d (j + 1) (wrap64 (wrap64 (10 * acc) + (bt t (j : Int) - 48) % 256))
theorem accD_range (t : ByteArray) : ∀ (d j : Nat) (acc x : Int), -9223372036854775808 ≤ acc ∧ acc ≤ 9223372036854775807 → accD t d j acc = some x → -9223372036854775808 ≤ x ∧ x ≤ 9223372036854775807 := by
  intro d
  induction d with
  | zero => intro j acc x h e; rw [accD] at e; rw [← Option.some.inj e]; exact h
  | succ d ih =>
    intro j acc x h e
    rw [accD] at e
    split at e
    · cases e
    · split at e
      · cases e
      · exact ih _ _ _ (wrap_range _) e
/-- What is answered where the text is the number's own. -/
def finV (s : ByteArray) (x : Int) : Int × Bool := if (itoaB x).toList = s.toList then (x, true) else (0, false)
def negV (neg : Bool) (x : Int) : Int := if neg = true then wrap64 (-x) else x
def readT (s : ByteArray) (neg : Bool) (t : ByteArray) : Int × Bool :=
  match accD t t.size 0 0 with
  | none => (0, false)
  | some x => finV s (negV neg x)
def cutB (s : ByteArray) (neg : Bool) : ByteArray := if neg = true then s.extract 1 s.size else s
def isNeg (s : ByteArray) : Bool := decide (0 < s.size) && decide (bt s 0 = 45)
/-- A number that is not negative. -/
def numV (r : Int × Bool) : Int × Bool := if r.2 = true then (if r.1 < 0 then (0, false) else (r.1, true)) else (0, false)
/-- The reading of a number of at most m digits. -/
def readV (s : ByteArray) (m : Int) : Int × Bool :=
  if (cutB s (isNeg s)).size < 1 ∨ ((cutB s (isNeg s)).size : Int) > m then (0, false) else readT s (isNeg s) (cutB s (isNeg s))
theorem extract_size (s : ByteArray) (i : Nat) (h : i ≤ s.size) : (s.extract i s.size).size = s.size - i := by
  rw [ByteArray.size_extract]; omega
theorem bt0 {s : ByteArray} (h : 0 < s.size) : ∃ l, s.data.toList = UInt8.ofNat (bt s 0).toNat :: l := by
  have hl := ba_len s
  cases e : s.data.toList with
  | nil => rw [e] at hl; simp at hl; omega
  | cons b l =>
    refine ⟨l, ?_⟩
    have h1 := bt_at s 0 (by simpa using h)
    have h2 : s[(0 : Int).toNat]'(by simpa using h) = b := by
      show s.data[0]'(by simpa using h) = b
      have : s.data.toList[0]'(by rw [e]; simp) = b := by simp [e]
      rw [← this, Array.getElem_toList]
    rw [← h1, h2]
    simp
theorem prefix_neg (s : ByteArray) (h : 1 ≤ s.size) : ((s.extract 0 1).toList == (⟨#[45]⟩ : ByteArray).toList) = isNeg s := by
  obtain ⟨l, e⟩ := bt0 (s := s) (by omega)
  have hb := btr s 0
  have h1 : (s.extract 0 1).toList = [UInt8.ofNat (bt s 0).toNat] := by
    rw [ByteArray.toList_eq, ByteArray.data_extract, Array.toList_extract, List.extract_eq_take_drop, e]
    rfl
  rw [h1]
  unfold isNeg
  rw [decide_eq_true (by omega : 0 < s.size), Bool.true_and]
  by_cases c : bt s 0 = 45
  · rw [decide_eq_true c, c, ByteArray.toList_eq]; rfl
  · rw [decide_eq_false c]
    have h2 : UInt8.ofNat (bt s 0).toNat ≠ 45 := fun hh => by
      have := congrArg UInt8.toNat hh
      simp at this
      omega
    have : (⟨#[45]⟩ : ByteArray).toList = [45] := by rw [ByteArray.toList_eq]
    rw [this]
    simpa using h2
end Go.Proofs.YtplmcifjgmcmhaaDoorM
