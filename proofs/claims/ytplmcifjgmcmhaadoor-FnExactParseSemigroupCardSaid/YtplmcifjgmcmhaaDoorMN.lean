/- Plain law of the decimal text of a number. -/
import Derived.Test.YtplmcifjgmcmhaaDoorMJ
import Derived.Lib.ItoaNum
namespace Go.Proofs.YtplmcifjgmcmhaaDoorM
open Go.RowKit Go.Proofs.YtplmcifjgmcmhaaDoorW.PrintWords Go.Proofs.YtplmcifjgmcmhaaDoorW.PrintLast Go.Proofs.YtplmcifjgmcmhaaDoorW.PrintMore
set_option linter.unusedVariables false
set_option linter.unusedSimpArgs false
/-- The text of a number. -/
def itoaB (x : Int) : ByteArray := ⟨(Lib.itoa x).toArray⟩
/-- The digits of a number, none of zero. -/
def digs (n : Nat) : List UInt8 := if n = 0 then [] else Lib.decDigits n
theorem digs_step {n : Nat} (h : 0 < n) : digs n = digs (n / 10) ++ [UInt8.ofNat (48 + n % 10)] := by
  unfold digs
  rw [if_neg (by omega), Lib.decDigits]
  by_cases h1 : n < 10
  · rw [dif_pos h1, if_pos (by omega), show n % 10 = n by omega]; rfl
  · rw [dif_neg h1, if_neg (by omega)]
theorem digs_length (n : Nat) (h : n ≤ 9223372036854775808) : (digs n).length ≤ 19 := by
  unfold digs
  by_cases h0 : n = 0
  · rw [if_pos h0]; simp
  · rw [if_neg h0, Lib.decDigits_length]
    have key : ∀ d m : Nat, m < 10 ^ (d + 1) → Lib.nDigits m ≤ d + 1 := by
      intro d
      induction d with
      | zero => intro m hm; rw [Lib.nDigits_small (by simpa using hm)]; omega
      | succ d ih =>
        intro m hm
        by_cases hs : m < 10
        · rw [Lib.nDigits_small hs]; omega
        · rw [Lib.nDigits_big hs]
          have := ih (m / 10) (by rw [Nat.pow_succ] at hm; omega)
          omega
    exact key 18 n (by omega)
theorem strOfNums_one (d : Nat) (h : d < 256) : strOfNums [((d : Nat) : Int)] = ⟨[UInt8.ofNat d].toArray⟩ := by simp [strOfNums]
theorem ba_append (a b : List UInt8) : (⟨a.toArray⟩ : ByteArray) ++ ⟨b.toArray⟩ = ⟨(a ++ b).toArray⟩ := by
  apply ByteArray.ext
  simp [ByteArray.data_append]
theorem ba_size (a : List UInt8) : (⟨a.toArray⟩ : ByteArray).size = a.length := by simp [ByteArray.size]
theorem itoaB_of (x : Int) (h : x ≠ 0) : itoaB x = ⟨((if x < 0 then [45] else []) ++ digs x.natAbs).toArray⟩ := by
  unfold itoaB Lib.itoa digs
  rw [if_neg (by omega : ¬ x.natAbs = 0)]
  by_cases hx : x < 0
  · rw [if_pos hx, if_pos hx]; rfl
  · rw [if_neg hx, if_neg hx, show x.natAbs = x.toNat by omega]; rfl
theorem itoaB_size (x : Int) (h : -9223372036854775808 ≤ x) (h' : x ≤ 9223372036854775807) : (itoaB x).size ≤ 20 := by
  by_cases h0 : x = 0
  · subst h0
    have : itoaB 0 = ⟨[48].toArray⟩ := by simp [itoaB, Lib.itoa, Lib.decDigits]
    rw [this, ba_size]; simp
  · rw [itoaB_of x h0, ba_size, List.length_append]
    have := digs_length x.natAbs (by omega)
    split <;> simp <;> omega
/-- The text of a list of numbers. -/
def listB (l : List Int) : ByteArray := if l = [] then ⟨#[110, 111, 110, 101]⟩ else ⟨(Lib.join ((l.map itoaB).map (·.data.toList)) [44]).toArray⟩
theorem lens_texts (l : List Int) (h : ∀ x ∈ l, -9223372036854775808 ≤ x ∧ x ≤ 9223372036854775807) : Lib.lens ((l.map itoaB).map (·.data.toList)) ≤ 20 * l.length := by
  induction l with
  | nil => simp [Lib.lens]
  | cons x l ih =>
    have h1 := itoaB_size x (h x (by simp)).1 (h x (by simp)).2
    have h2 := ih (fun y hy => h y (by simp [hy]))
    have h3 : (itoaB x).data.toList.length = (itoaB x).size := data_length _
    simp only [Lib.lens, List.map_cons, List.sum_cons, List.length_cons] at h2 ⊢
    omega
end Go.Proofs.YtplmcifjgmcmhaaDoorM
