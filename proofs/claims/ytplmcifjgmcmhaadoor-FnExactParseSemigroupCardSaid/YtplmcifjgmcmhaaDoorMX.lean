/- Plain law of the reading of a semigroup's text. -/
import Derived.Test.YtplmcifjgmcmhaaDoorMR
import Derived.Test.YtplmcifjgmcmhaaDoorMU
import Derived.Test.YtplmcifjgmcmhaaDoorMV
namespace Go.Proofs.YtplmcifjgmcmhaaDoorM
open Go.RowKit Go.Proofs.YtplmcifjgmcmhaaDoorW.PrintWords Go.Proofs.YtplmcifjgmcmhaaDoorW.PrintLast Go.Proofs.YtplmcifjgmcmhaaDoorW.PrintMore
set_option linter.unusedVariables false
set_option linter.unusedSimpArgs false
theorem join_two (sep x y : List UInt8) (L : List (List UInt8)) : Lib.join (L ++ [x, y]) sep = Lib.join (L ++ [x ++ sep ++ y]) sep := by
  cases L with
  | nil =>
    rw [List.nil_append, List.nil_append, Lib.join_cons, Lib.join_one]
    simp [Lib.joinTail]
  | cons a L =>
    rw [List.cons_append, List.cons_append, Lib.join_cons, Lib.join_cons]
    simp [Lib.joinTail]
def dl (ps : List ByteArray) : List (List UInt8) := ps.map (·.data.toList)
theorem ext_list (s : ByteArray) (a b : Nat) (hb : b ≤ s.size) : (s.extract a b).data.toList = (s.data.toList.take b).drop a := by
  rw [ByteArray.data_extract, Array.toList_extract, List.extract_eq_take_drop, List.drop_take]
theorem cut_at (s : ByteArray) (b : Int) (fr i : Nat) (h1 : fr ≤ i) (h2 : i < s.size) (hb : bt s (i : Int) = b) : (s.extract fr s.size).data.toList = (s.extract fr i).data.toList ++ [UInt8.ofNat b.toNat] ++ (s.extract (i + 1) s.size).data.toList := by
  have hl := ba_len s
  have hi : i < s.data.toList.length := by omega
  have e : UInt8.ofNat b.toNat = s.data.toList[i] := by
    rw [← hb, bt_nat s i h2]
    simp
  rw [ext_list s fr s.size (by omega), ext_list s fr i (by omega), ext_list s (i + 1) s.size (by omega), e, ← hl, List.take_length]
  have h3 : s.data.toList.drop fr = (s.data.toList.take i ++ s.data.toList.drop i).drop fr := by rw [List.take_append_drop]
  rw [h3, List.drop_append_of_le_length (by rw [List.length_take]; omega), List.drop_eq_getElem_cons hi]
  simp
theorem splitFrom_join (s : ByteArray) (b : Int) : ∀ (d : Nat) (out : List ByteArray) (fr i : Nat), i + d = s.size → fr ≤ i → Lib.join (dl (splitFrom s b d out fr i)) [UInt8.ofNat b.toNat] = Lib.join (dl (out ++ [s.extract fr s.size])) [UInt8.ofNat b.toNat] := by
  intro d
  induction d with
  | zero => intro out fr i h1 h2; rfl
  | succ d ih =>
    intro out fr i h1 h2
    rw [splitFrom]
    split
    · rename_i hb
      rw [ih _ _ _ (by omega) (by omega)]
      unfold dl
      rw [List.map_append, List.map_append, List.map_append, List.append_assoc]
      simp only [List.map_cons, List.map_nil, List.cons_append, List.nil_append]
      rw [join_two, cut_at s b fr i h2 (by omega) hb]
    · exact ih _ _ _ (by omega) (by omega)
theorem splitV_join (s : ByteArray) (b : Int) : Lib.join (dl (splitV s b)) [UInt8.ofNat b.toNat] = s.data.toList := by
  unfold splitV
  rw [splitFrom_join s b s.size [] 0 0 (by omega) (by omega)]
  unfold dl
  rw [List.nil_append, List.map_cons, List.map_nil, Lib.join_one, ByteArray.extract_zero_size]
theorem readFrom_true (ps : List ByteArray) : ∀ (d j : Nat) (acc : List Int), j + d = ps.length → (readFrom ps d j acc).2 = true → ∃ ys, (readFrom ps d j acc).1 = acc ++ ys ∧ ys.map itoaB = ps.drop j := by
  intro d
  induction d with
  | zero =>
    intro j acc h1 h2
    exact ⟨[], by rw [readFrom, List.append_nil], by rw [List.drop_eq_nil_of_le (by omega)]; rfl⟩
  | succ d ih =>
    intro j acc h1 h2
    rw [readFrom] at h2 ⊢
    have hj : j < ps.length := by omega
    split at h2
    · rename_i c
      rw [if_pos c]
      obtain ⟨ys, e1, e2⟩ := ih _ _ (by omega) h2
      have e3 := (readV_true c).2
      refine ⟨(readV (ps.getD j ByteArray.empty) 12).1 :: ys, by rw [e1]; simp, ?_⟩
      rw [List.map_cons, e2, e3, List.drop_eq_getElem_cons hj]
      simp [List.getD_eq_getElem?_getD, hj]
    · cases h2
/-- A list that was read is told by the text that it was read from. -/
theorem parseLV_true {s : ByteArray} (h : (parseLV s).2 = true) (hn : (parseLV s).1 ≠ []) : listB (parseLV s).1 = s := by
  unfold parseLV at h hn ⊢
  by_cases c : s.toList = [110, 111, 110, 101]
  · rw [if_pos c] at hn
    exact absurd rfl hn
  · rw [if_neg c] at h hn ⊢
    obtain ⟨ys, e1, e2⟩ := readFrom_true _ _ _ _ (by omega) h
    rw [e1, List.nil_append] at hn ⊢
    rw [List.drop_zero] at e2
    unfold listB
    rw [if_neg hn, e2]
    apply ba_ext
    have := splitV_join s 44
    unfold dl at this
    exact this
theorem parseLV_range (s : ByteArray) : ∀ x ∈ (parseLV s).1, -9223372036854775808 ≤ x ∧ x ≤ 9223372036854775807 := by
  have key : ∀ (ps : List ByteArray) (d j : Nat) (acc : List Int), (∀ x ∈ acc, -9223372036854775808 ≤ x ∧ x ≤ 9223372036854775807) → ∀ x ∈ (readFrom ps d j acc).1, -9223372036854775808 ≤ x ∧ x ≤ 9223372036854775807 := by
    intro ps d
    induction d with
    | zero => intro j acc h x hx; rw [readFrom] at hx; exact h x hx
    | succ d ih =>
      intro j acc h x hx
      rw [readFrom] at hx
      split at hx
      · rename_i c
        refine ih _ _ ?_ x hx
        intro y hy
        rw [List.mem_append, List.mem_singleton] at hy
        rcases hy with hy | hy
        · exact h y hy
        · rw [hy]; exact (readV_true c).1
      · cases hx
  unfold parseLV
  split
  · intro x hx; cases hx
  · exact key _ _ _ _ (fun x hx => by cases hx)
/-- The text between its first and its last byte. -/
def midB (s : ByteArray) : ByteArray := s.extract 1 (s.size - 1)
/-- The reading of a semigroup. -/
noncomputable def parseSV (s : ByteArray) : List Int × Bool :=
  if B (2 ≤ s.size ∧ bt s 0 = 60 ∧ bt s ((s.size - 1 : Nat) : Int) = 62 ∧ (parseLV (midB s)).2 = true ∧ SG (parseLV (midB s)).1) = true then ((parseLV (midB s)).1, true) else ([], false)
theorem ends_of (s : ByteArray) (hs : 2 ≤ s.size) : (bt s 0 = 60 ∧ bt s ((s.size - 1 : Nat) : Int) = 62) ↔ s.data.toList = [60] ++ (midB s).data.toList ++ [62] := by
  have hl := ba_len s
  have h0 : 0 < s.data.toList.length := by omega
  have h1 : s.size - 1 < s.data.toList.length := by omega
  have hm : (midB s).data.toList = (s.data.toList.take (s.size - 1)).drop 1 := ext_list s 1 (s.size - 1) (by omega)
  have hall : s.data.toList = [s.data.toList[0]] ++ (midB s).data.toList ++ [s.data.toList[s.size - 1]] := by
    rw [hm]
    have e1 : s.data.toList = s.data.toList.take (s.size - 1) ++ [s.data.toList[s.size - 1]] := by
      have := List.take_append_getElem h1
      rw [this, List.take_of_length_le (by omega)]
    have e2 : s.data.toList.take (s.size - 1) = [s.data.toList[0]] ++ (s.data.toList.take (s.size - 1)).drop 1 := by
      have h2 : 0 < (s.data.toList.take (s.size - 1)).length := by rw [List.length_take]; omega
      have := List.drop_eq_getElem_cons h2
      rw [List.drop_zero, List.getElem_take] at this
      exact this
    rw [← e2]
    exact e1
  have b0 : bt s 0 = ((s.data.toList[0]).toNat : Int) := bt_nat s 0 (by omega)
  have b1 : bt s ((s.size - 1 : Nat) : Int) = ((s.data.toList[s.size - 1]).toNat : Int) := bt_nat s (s.size - 1) (by omega)
  rw [b0, b1]
  constructor
  · rintro ⟨c0, c1⟩
    have d0 : s.data.toList[0] = 60 := by apply UInt8.toNat_inj.1; show _ = 60; omega
    have d1 : s.data.toList[s.size - 1] = 62 := by apply UInt8.toNat_inj.1; show _ = 62; omega
    rw [d0, d1] at hall
    exact hall
  · intro e
    have e' := hall.symm.trans e
    have hle := List.append_inj' e' rfl
    have hh := (List.append_inj hle.1 rfl).1
    have d0 := (List.cons.inj hh).1
    have d1 := (List.cons.inj hle.2).1
    rw [d0, d1]
    exact ⟨rfl, rfl⟩
/-- The text of the semigroup that was read between the ends is the text itself, exactly where the ends are the brackets. -/
theorem sgB_iff (s : ByteArray) (hs : 2 ≤ s.size) (h : (parseLV (midB s)).2 = true) : sgB (parseLV (midB s)).1 = s ↔ (bt s 0 = 60 ∧ bt s ((s.size - 1 : Nat) : Int) = 62) ∧ SG (parseLV (midB s)).1 := by
  unfold sgB
  by_cases c : SG (parseLV (midB s)).1
  · have hn : (parseLV (midB s)).1 ≠ [] := fun e => by
      have := c.1.1
      rw [e] at this
      simp at this
    rw [if_pos (B_true c), parseLV_true h hn, ends_of s hs]
    constructor
    · intro e
      refine ⟨?_, c⟩
      have e2 := congrArg (fun z : ByteArray => z.data.toList) e
      simp only [ByteArray.data_append, Array.toList_append] at e2
      exact e2.symm
    · rintro ⟨e, _⟩
      apply ba_ext
      simp only [ByteArray.data_append, Array.toList_append]
      exact e.symm
  · rw [if_neg (by rw [B_false c]; simp)]
    constructor
    · intro e
      rw [← e] at hs
      exact absurd hs (by decide)
    · rintro ⟨_, hh⟩
      exact absurd hh c
theorem parseSV_yes {s : ByteArray} (h : 2 ≤ s.size ∧ bt s 0 = 60 ∧ bt s ((s.size - 1 : Nat) : Int) = 62 ∧ (parseLV (midB s)).2 = true ∧ SG (parseLV (midB s)).1) : parseSV s = ((parseLV (midB s)).1, true) := by
  unfold parseSV
  rw [if_pos (B_true h)]
theorem parseSV_no {s : ByteArray} (h : ¬ (2 ≤ s.size ∧ bt s 0 = 60 ∧ bt s ((s.size - 1 : Nat) : Int) = 62 ∧ (parseLV (midB s)).2 = true ∧ SG (parseLV (midB s)).1)) : parseSV s = ([], false) := by
  unfold parseSV
  rw [B_false h, if_neg (by simp)]
theorem one_byte (s : ByteArray) (j : Nat) (h : j < s.size) : (s.extract j (j + 1)).toList = [UInt8.ofNat (bt s (j : Int)).toNat] := by
  have hl := ba_len s
  have hj : j < s.data.toList.length := by omega
  rw [ByteArray.toList_eq, ext_list s j (j + 1) (by omega), bt_nat s j h, List.take_add_one, List.getElem?_eq_getElem hj]
  rw [List.drop_append_of_le_length (by rw [List.length_take]; omega), List.drop_eq_nil_of_le (by rw [List.length_take]; omega)]
  simp
theorem byte_is (s : ByteArray) (j : Nat) (h : j < s.size) (c : UInt8) : ((s.extract j (j + 1)).toList == (⟨#[c]⟩ : ByteArray).toList) = decide (bt s (j : Int) = (c.toNat : Int)) := by
  have hb := btr s (j : Int)
  have e : (⟨#[c]⟩ : ByteArray).toList = [c] := by rw [ByteArray.toList_eq]
  rw [one_byte s j h, e]
  by_cases k : bt s (j : Int) = (c.toNat : Int)
  · rw [decide_eq_true k, k]
    simp
  · rw [decide_eq_false k]
    have h2 : UInt8.ofNat (bt s (j : Int)).toNat ≠ c := fun hh => by
      have := congrArg UInt8.toNat hh
      rw [UInt8.toNat_ofNat'] at this
      omega
    simpa using h2
theorem bt_shift (s : ByteArray) (j : Nat) (h : j + 1 < s.size) : bt (s.extract 1 s.size) (j : Int) = bt s ((j + 1 : Nat) : Int) := by
  have hl := ba_len s
  have h2 : (s.extract 1 s.size).size = s.size - 1 := extract_size s 1 (by omega)
  have e := ext_list s 1 s.size (by omega)
  rw [bt_nat _ j (by omega), bt_nat s (j + 1) h]
  congr 2
  have h3 : (s.extract 1 s.size).data.toList[j]? = s.data.toList[j + 1]? := by
    rw [e, ← hl, List.take_length, List.getElem?_drop, Nat.add_comm]
  rw [List.getElem?_eq_getElem (by rw [ba_len]; omega), List.getElem?_eq_getElem (by omega)] at h3
  exact Option.some.inj h3
theorem mid_of (s : ByteArray) : (s.extract 1 s.size).extract 0 (s.size - 1 - 1) = midB s := by
  have h2 : (s.extract 1 s.size).size = s.size - 1 := by rw [ByteArray.size_extract]; omega
  apply ba_ext
  rw [ext_list _ 0 _ (by omega), ext_list s 1 s.size (by omega)]
  unfold midB
  rw [ext_list s 1 (s.size - 1) (by omega), List.drop_zero, ← ba_len s, List.take_length, List.take_drop]
  by_cases h : 2 ≤ s.data.toList.length
  · rw [show 1 + (s.data.toList.length - 1 - 1) = s.data.toList.length - 1 by omega]
  · rw [List.drop_eq_nil_of_le (by rw [List.length_take]; omega), List.drop_eq_nil_of_le (by rw [List.length_take]; omega)]
end Go.Proofs.YtplmcifjgmcmhaaDoorM
