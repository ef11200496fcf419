/- Plain law: the reading of a number's own text. -/
import Derived.Test.YtplmcifjgmcmhaaDoorMP
namespace Go.Proofs.YtplmcifjgmcmhaaDoorM
open Go.RowKit Go.Proofs.YtplmcifjgmcmhaaDoorW.PrintWords Go.Proofs.YtplmcifjgmcmhaaDoorW.PrintLast Go.Proofs.YtplmcifjgmcmhaaDoorW.PrintMore
set_option linter.unusedVariables false
set_option linter.unusedSimpArgs false
theorem bt_nat (s : ByteArray) (j : Nat) (h : j < s.size) : bt s (j : Int) = ((s.data.toList[j]'(by rw [ba_len]; exact h)).toNat : Int) := by
  rw [← bt_at s (j : Int) (by simpa using h), Array.getElem_toList]
  rfl
def valD (l : List UInt8) (acc : Int) : Int := l.foldl (fun a b => 10 * a + ((b.toNat : Int) - 48)) acc
theorem accD_val (t : ByteArray) : ∀ (d j : Nat) (acc : Int), j + d = t.size → (∀ b ∈ t.data.toList, 48 ≤ b.toNat ∧ b.toNat ≤ 57) → 0 ≤ acc → (acc + 1) * 10 ^ d ≤ 1000000000000000000 → accD t d j acc = some (valD (t.data.toList.drop j) acc) := by
  intro d
  induction d with
  | zero =>
    intro j acc h1 h2 h3 h4
    rw [accD, List.drop_eq_nil_of_le (by rw [ba_len]; omega)]
    rfl
  | succ d ih =>
    intro j acc h1 h2 h3 h4
    have hj : j < t.data.toList.length := by rw [ba_len]; omega
    have hb := h2 _ (List.getElem_mem hj)
    have hp : (1 : Int) ≤ 10 ^ d := Int.pow_pos (by omega)
    have h5 : (acc + 1) * 10 * 10 ^ d ≤ 1000000000000000000 := by rw [Int.pow_succ, Int.mul_comm (10 ^ d) 10, ← Int.mul_assoc] at h4; exact h4
    have h6 : (acc + 1) * 10 ≤ 1000000000000000000 := Int.le_trans (by have := Int.mul_le_mul_of_nonneg_left hp (show (0 : Int) ≤ (acc + 1) * 10 by omega); rw [Int.mul_one] at this; exact this) h5
    rw [accD, bt_nat t j (by omega)]
    generalize hg : (t.data.toList[j]'hj) = b at hb ⊢
    have e1 : wrap64 (10 * acc) = 10 * acc := w64 (by omega) (by omega)
    have e2 : ((b.toNat : Int) - 48) % 256 = (b.toNat : Int) - 48 := by omega
    have e3 : wrap64 (10 * acc + ((b.toNat : Int) - 48)) = 10 * acc + ((b.toNat : Int) - 48) := w64 (by omega) (by omega)
    rw [if_neg (by omega), if_neg (by omega), e1, e2, e3, ih (j + 1) _ (by omega) h2 (by omega) (by
      refine Int.le_trans (Int.mul_le_mul_of_nonneg_right ?_ (by omega)) h5
      omega), List.drop_eq_getElem_cons hj, hg]
    rfl
theorem decDigits_digits (u : Nat) : ∀ b ∈ Lib.decDigits u, 48 ≤ b.toNat ∧ b.toNat ≤ 57 := by
  induction u using Nat.strongRecOn with
  | _ u ih =>
    intro b hb
    rw [Lib.decDigits] at hb
    have one : ∀ d : Nat, d < 10 → (UInt8.ofNat (48 + d)).toNat = 48 + d := fun d hd => by
      rw [UInt8.toNat_ofNat']; omega
    split at hb
    · rw [List.mem_singleton] at hb
      rw [hb, one u (by omega)]
      omega
    · rw [List.mem_append, List.mem_singleton] at hb
      rcases hb with hb | hb
      · exact ih (u / 10) (by omega) b hb
      · rw [hb, one (u % 10) (by omega)]
        omega
theorem decDigits_val (u : Nat) : valD (Lib.decDigits u) 0 = (u : Int) := by
  induction u using Nat.strongRecOn with
  | _ u ih =>
    have one : ∀ d : Nat, d < 10 → (UInt8.ofNat (48 + d)).toNat = 48 + d := fun d hd => by
      rw [UInt8.toNat_ofNat']; omega
    rw [Lib.decDigits]
    split
    · simp only [valD, List.foldl_cons, List.foldl_nil]
      rw [one u (by omega)]
      omega
    · have h := ih (u / 10) (by omega)
      unfold valD at h ⊢
      rw [List.foldl_append, h]
      simp only [List.foldl_cons, List.foldl_nil]
      rw [one (u % 10) (by omega)]
      omega
theorem decDigits_pos (u : Nat) : 1 ≤ (Lib.decDigits u).length := by rw [Lib.decDigits_length]; exact Lib.nDigits_pos u
theorem itoa_neg (n : Int) : isNeg (itoaB n) = decide (n < 0) ∧ (cutB (itoaB n) (isNeg (itoaB n))).data.toList = Lib.decDigits n.natAbs := by
  have hz : (itoaB n).data.toList = Lib.itoa n := by simp [itoaB]
  have hs : 0 < (itoaB n).size := by
    rw [← ba_len, hz]
    unfold Lib.itoa
    split
    · simp
    · exact decDigits_pos _
  obtain ⟨l, e⟩ := bt0 hs
  have hb := btr (itoaB n) 0
  rw [hz] at e
  have ht : (UInt8.ofNat (bt (itoaB n) 0).toNat).toNat = (bt (itoaB n) 0).toNat := by rw [UInt8.toNat_ofNat']; omega
  by_cases c : n < 0
  · have e' := e
    unfold Lib.itoa at e'
    rw [if_pos c] at e'
    have e1 := (List.cons.inj e').1
    have e2 := congrArg UInt8.toNat e1
    rw [ht] at e2
    have e3 : (45 : UInt8).toNat = 45 := rfl
    rw [e3] at e2
    have e4 : isNeg (itoaB n) = true := by
      unfold isNeg
      rw [decide_eq_true hs, decide_eq_true (by omega)]
      rfl
    rw [e4, decide_eq_true c]
    refine ⟨rfl, ?_⟩
    unfold cutB
    rw [if_pos rfl, ByteArray.data_extract, Array.toList_extract, List.extract_eq_take_drop, hz]
    have hl : (Lib.itoa n).length = (itoaB n).size := by rw [← hz, ba_len]
    rw [← hl]
    unfold Lib.itoa
    rw [if_pos c]
    simp
  · have e' := e
    unfold Lib.itoa at e'
    rw [if_neg c] at e'
    have hd := decDigits_digits n.toNat (UInt8.ofNat (bt (itoaB n) 0).toNat) (by rw [e']; simp)
    rw [ht] at hd
    have e4 : isNeg (itoaB n) = false := by
      unfold isNeg
      rw [decide_eq_true hs, decide_eq_false (by omega)]
      rfl
    rw [e4, decide_eq_false c]
    refine ⟨rfl, ?_⟩
    unfold cutB
    rw [if_neg (by simp), hz]
    unfold Lib.itoa
    rw [if_neg c, show n.natAbs = n.toNat by omega]
theorem itoaB_len (n : Int) : (itoaB n).size = (if n < 0 then 1 else 0) + (Lib.decDigits n.natAbs).length := by
  have hz : (itoaB n).data.toList = Lib.itoa n := by simp [itoaB]
  rw [← ba_len, hz]
  unfold Lib.itoa
  by_cases c : n < 0
  · rw [if_pos c, if_pos c, List.length_cons]; omega
  · rw [if_neg c, if_neg c, show n.natAbs = n.toNat by omega]; omega
/-- The reading of a number's own text gives the number back, if it has at most m digits. -/
theorem readV_itoa (n : Int) (m : Int) (hm : m ≤ 18) (h : -9223372036854775808 ≤ n) (h' : n ≤ 9223372036854775807) : readV (itoaB n) m = if ((Lib.decDigits n.natAbs).length : Int) ≤ m then (n, true) else (0, false) := by
  obtain ⟨h1, h2⟩ := itoa_neg n
  have h3 : (cutB (itoaB n) (isNeg (itoaB n))).size = (Lib.decDigits n.natAbs).length := by rw [← ba_len, h2]
  have h4 := decDigits_pos n.natAbs
  unfold readV
  rw [h3]
  by_cases c : ((Lib.decDigits n.natAbs).length : Int) ≤ m
  · rw [if_neg (by omega), if_pos c]
    unfold readT
    rw [h3, accD_val _ _ 0 0 (by omega) (by rw [h2]; exact decDigits_digits _) (by omega) (by
      have : (10 : Int) ^ (Lib.decDigits n.natAbs).length ≤ 10 ^ 18 := by
        have hh : (10 : Nat) ^ (Lib.decDigits n.natAbs).length ≤ 10 ^ 18 := Nat.pow_le_pow_right (by omega) (by omega)
        exact_mod_cast hh
      omega), List.drop_zero, h2, decDigits_val, h1]
    have e : negV (decide (n < 0)) ((n.natAbs : Nat) : Int) = n := by
      unfold negV
      by_cases c2 : n < 0
      · rw [decide_eq_true c2, if_pos rfl, show -((n.natAbs : Nat) : Int) = n by omega, w64 h h']
      · rw [decide_eq_false c2, if_neg (by simp)]; omega
    show finV (itoaB n) (negV (decide (n < 0)) ((n.natAbs : Nat) : Int)) = _
    rw [e]
    unfold finV
    rw [if_pos rfl]
  · rw [if_pos (.inr (by omega)), if_neg c]
/-- What is read is in the number's own text. -/
theorem readV_true {s : ByteArray} {m : Int} (h : (readV s m).2 = true) : (-9223372036854775808 ≤ (readV s m).1 ∧ (readV s m).1 ≤ 9223372036854775807) ∧ itoaB (readV s m).1 = s := by
  unfold readV at h ⊢
  split at h
  · cases h
  · rename_i hc
    rw [if_neg hc]
    unfold readT at h ⊢
    cases e : accD (cutB s (isNeg s)) (cutB s (isNeg s)).size 0 0 with
    | none => rw [e] at h; cases h
    | some x =>
      rw [e] at h
      have hx := accD_range _ _ _ _ _ (by omega) e
      simp only [] at h ⊢
      have hr : -9223372036854775808 ≤ negV (isNeg s) x ∧ negV (isNeg s) x ≤ 9223372036854775807 := by
        unfold negV
        split
        · exact wrap_range _
        · exact hx
      unfold finV at h ⊢
      split at h
      · rename_i hf
        rw [if_pos hf]
        exact ⟨hr, (ba_eq _ _).1 hf⟩
      · cases h
end Go.Proofs.YtplmcifjgmcmhaaDoorM
