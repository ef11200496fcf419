/- The program's SumsOf answers what the reference's answers, for every two lists of numbers, in memory of its own (lists of more than 1048576 numbers are let pass by the law itself). No further condition. -/
import Derived.Test.YtbagfnppeidonaaPFnExactSumsOfx1
import Derived.Test.YtbagfnppeidonaaPFnExactSumsOfx2
import Derived.Test.YtbagfnppeidonaaPFnExactSumsOfx3
import Derived.Test.YtbagfnppeidonaaPFnExactSumsOfx4
import Derived.Test.YtbagfnppeidonaaPFnExactSumsOfx5
import Derived.Test.YtbagfnppeidonaaPFnExactSumsOfx6
import Derived.Test.YtbagfnppeidonaaPFnExactSumsOfx7
import Derived.Test.YtbagfnppeidonaaPFnExactSumsOfx8
import Derived.Test.YtbagfnppeidonaaPFnExactSumsOfx9
import Derived.Test.YtbagfnppeidonaaPFnExactSumsOfx10
import Derived.Test.YtbagfnppeidonaaPFnExactSumsOfx11
import Derived.Test.YtbagfnppeidonaaM0
import Derived.Test.YtbagfnppeidonaaM1
import Derived.Test.YtbagfnppeidonaaM2
import Derived.Test.YtbagfnppeidonaaM3
import Derived.Test.YtbagfnppeidonaaM4
import Derived.Test.YtbagfnppeidonaaMQ
namespace Go.Proofs.Ytbagfnppeidonaa.PFnExactSumsOf
open Go.RowKit Go.Proofs.YtbagfnppeidonaaW.PrintWords Go.Proofs.YtbagfnppeidonaaW.PrintLast Go.Proofs.YtbagfnppeidonaaW.PrintMore Go.Proofs.YtbagfnppeidonaaM
set_option linter.unusedVariables false
set_option linter.unusedSimpArgs false
/-! laws_toIntS -/
theorem laws_toIntS.l0_ev (xs : List Int) (hx : xs.length ≤ 1048576) : ∀ (d j : Nat) (acc : List Int), j + d = xs.length → acc.length = xs.length → acc.take j = xs.take j → Ev (fun k => laws_toIntS.l0 k xs acc (j : Int)) xs := by
  intro d
  induction d with
  | zero =>
    intro j acc h1 h2 h3
    have e : acc = xs := by rw [← List.take_of_length_le (l := acc) (i := j) (by omega), h3, List.take_of_length_le (by omega)]
    subst e
    refine Ev.step (fun k => by rw [laws_toIntS.l0]) ?_
    refine ev_neg (by omega) (Ev.now _)
  | succ d ih =>
    intro j acc h1 h2 h3
    refine Ev.step (fun k => by rw [laws_toIntS.l0]) ?_
    refine ev_pos (by omega) (ev_pos (by omega) (ev_pos (by omega) ?_))
    rw [wadd1 (by omega)]
    refine ih (j + 1) _ (by omega) (by simp; omega) ?_
    rw [Int.toNat_natCast, rd_nat]
    exact set_take acc xs j _ (by omega) (by omega) h3 (getD_get (by omega)).symm
theorem laws_toIntS.ev (xs : List Int) (hx : xs.length ≤ 1048576) : Ev (fun k => laws_toIntS.f k xs) xs := by
  unfold laws_toIntS.f
  refine ev_pos (by omega) (ev_pos (by omega) ?_)
  rw [Int.toNat_natCast]
  exact laws_toIntS.l0_ev xs hx xs.length 0 _ (by omega) (by simp) (by simp)

/-! laws_eqIntS -/
theorem laws_eqIntS.l0_ev (x y : List Int) (hl : x.length = y.length) (hx : x.length < 4611686018427387904) : ∀ (d j : Nat), j + d = x.length → Ev (fun k => laws_eqIntS.l0 k x y (j : Int)) (B (x.drop j = y.drop j)) := by
  intro d
  induction d with
  | zero =>
    intro j h1
    refine Ev.step (fun k => by rw [laws_eqIntS.l0]) ?_
    rw [B_true (by rw [List.drop_of_length_le (by omega), List.drop_of_length_le (by omega)])]
    exact ev_neg (by omega) (Ev.now _)
  | succ d ih =>
    intro j h1
    have hj : j < x.length := by omega
    have hj' : j < y.length := by omega
    refine Ev.step (fun k => by rw [laws_eqIntS.l0]) ?_
    refine ev_pos (by omega) (ev_pos (by omega) (ev_pos (by omega) ?_))
    rw [wadd1 (by omega), rd_nat, rd_nat, getD_get hj, getD_get hj', List.drop_eq_getElem_cons hj, List.drop_eq_getElem_cons hj']
    by_cases e : x[j] = y[j]
    · refine ev_pos e ?_
      have := ih (j + 1) (by omega)
      rw [B_congr (q := x.drop (j + 1) = y.drop (j + 1)) (by simp only [e, List.cons.injEq, true_and])]
      exact this
    · refine ev_neg e ?_
      rw [B_false (fun h => e (List.cons.inj h).1)]
      exact Ev.now _
theorem laws_eqIntS.ev (x y : List Int) (hx : x.length < 4611686018427387904) : Ev (fun k => laws_eqIntS.f k x y) (B (x = y)) := by
  unfold laws_eqIntS.f
  by_cases e : x.length = y.length
  · refine ev_pos (by omega) ?_
    exact laws_eqIntS.l0_ev x y e hx x.length 0 (by omega)
  · refine ev_neg (by omega) ?_
    rw [B_false (fun h => e (by rw [h]))]
    exact Ev.now _

/-! laws_markIntS -/
theorem laws_markIntS.l0_ev (m : Int) (hm : 0 ≤ m) (hm' : m ≤ 1000000000) : ∀ (d j : Nat) (x : List Int), j + d = x.length → x.length < 1000000000000 → x.take j = marksI j m → Ev (fun k => laws_markIntS.l0 k x (m + j) (j : Int)) (m + x.length, marksI x.length m) := by
  intro d
  induction d with
  | zero =>
    intro j x h1 h2 h3
    refine Ev.step (fun k => by rw [laws_markIntS.l0]) ?_
    rw [List.take_of_length_le (by omega)] at h3
    have e : j = x.length := by omega
    subst e
    rw [← h3]
    exact ev_neg (by omega) (Ev.now _)
  | succ d ih =>
    intro j x h1 h2 h3
    refine Ev.step (fun k => by rw [laws_markIntS.l0]) ?_
    have e : Box (wrap64 (m + (j : Int) + 1) = m + ((j + 1 : Nat) : Int)) := ⟨by rw [w64 (by omega) (by omega)]; omega⟩
    rw [wadd1 (by omega), e.out, Int.toNat_natCast]
    refine ev_pos (by omega) (ev_pos (by omega) ?_)
    have := ih (j + 1) (x.set j (m + j)) (by simp; omega) (by simp; omega) (by
      rw [marksI_snoc, ← h3, List.take_succ_eq_append_getElem (by simp; omega), List.take_set_of_le (by omega)]
      simp)
    simpa using this
theorem laws_markIntS.ev (x : List Int) (hx : x.length < 1000000000000) (m : Int) (hm : 0 ≤ m) (hm' : m ≤ 1000000000) : Ev (fun k => laws_markIntS.f k x m) (m + x.length, marksI x.length m) := by
  unfold laws_markIntS.f
  have := laws_markIntS.l0_ev m hm hm' x.length 0 x (by omega) hx (by simp [marksI])
  simpa using this

/-! laws_heldIntS -/
theorem laws_heldIntS.l0_ev (m : Int) (hm : 0 ≤ m) (hm' : m ≤ 1000000000) (n : Nat) (hn : n < 1000000000000) : ∀ (d j : Nat), j + d = n → Ev (fun k => laws_heldIntS.l0 k (marksI n m) (m + j) (j : Int)) (m + n) := by
  intro d
  induction d with
  | zero =>
    intro j h1
    refine Ev.step (fun k => by rw [laws_heldIntS.l0]) ?_
    have e : j = n := by omega
    subst e
    exact ev_neg (by rw [marksI_length]; omega) (Ev.now _)
  | succ d ih =>
    intro j h1
    refine Ev.step (fun k => by rw [laws_heldIntS.l0]) ?_
    have e : Box (wrap64 (m + (j : Int) + 1) = m + ((j + 1 : Nat) : Int)) := ⟨by rw [w64 (by omega) (by omega)]; omega⟩
    rw [wadd1 (by omega), e.out, rd_nat, marksI_get n m j (by omega)]
    exact ev_pos (by rw [marksI_length]; omega) (ev_pos (by omega) (ev_pos rfl (ih (j + 1) (by omega))))
theorem laws_heldIntS.ev (n : Nat) (hn : n < 1000000000000) (m : Int) (hm : 0 ≤ m) (hm' : m ≤ 1000000000) : Ev (fun k => laws_heldIntS.f k (marksI n m) m) (m + n) := by
  unfold laws_heldIntS.f
  have := laws_heldIntS.l0_ev m hm hm' n hn n 0 (by omega)
  simpa using this

/-! spec_SortList -/
theorem spec_SortList.l0_ev (l : List Int) (hl : l.length ≤ 1000000000) : ∀ (d j : Nat) (s : List Int), j + d = l.length → s.length ≤ j → IsSort (l.take j) s → ∃ r, Ev (fun k => spec_SortList.l0 k l s (j : Int)) r ∧ IsSort l r ∧ r.length ≤ l.length := by
  intro d
  induction d with
  | zero =>
    intro j s h1 h2 h3
    rw [List.take_of_length_le (by omega)] at h3
    refine ⟨s, Ev.step (fun k => by rw [spec_SortList.l0]) ?_, h3, by omega⟩
    exact ev_neg (by omega) (Ev.now _)
  | succ d ih =>
    intro j s h1 h2 h3
    have hj : j < l.length := by omega
    have same : Box (l[j] ∈ s → ∃ r, Ev (fun k => spec_SortList.l0 k l s (wrap64 ((j : Int) + 1))) r ∧ IsSort l r ∧ r.length ≤ l.length) := Box.mk <| by
      intro hm
      rw [wadd1 (by omega)]
      refine ih (j + 1) s (by omega) (by omega) ⟨h3.1, fun x => ?_⟩
      rw [List.take_succ_eq_append_getElem hj, List.mem_append, List.mem_singleton, ← h3.2]
      constructor
      · intro h; exact .inl h
      · rintro (h | h)
        · exact h
        · rw [h]; exact hm
    have inner : ∀ (b : Nat), b ≤ s.length → (∀ i, b ≤ i → i < s.length → l[j] < s.getD i 0) → ∃ r, Ev (fun k => spec_SortList.l1 k l s (j : Int) (b : Int)) r ∧ IsSort l r ∧ r.length ≤ l.length := by
      have put : ∀ b : Nat, b ≤ s.length → (0 < b → s.getD (b - 1) 0 < l[j]) → (∀ i, b ≤ i → i < s.length → l[j] < s.getD i 0) → ∃ r, Ev (fun k => spec_SortList.l0 k l (s.take b ++ [l[j]] ++ ([] ++ s.drop b)) (wrap64 ((j : Int) + 1))) r ∧ IsSort l r ∧ r.length ≤ l.length := by
        intro b hb hlo hhi
        obtain ⟨p1, p2⟩ := insert_sorted h3.1 b hb l[j] hlo hhi
        rw [wadd1 (by omega), List.nil_append]
        refine ih (j + 1) _ (by omega) (by simp; omega) ⟨p1, fun x => ?_⟩
        rw [p2, List.take_succ_eq_append_getElem hj, List.mem_append, List.mem_singleton, h3.2]
      intro b
      induction b with
      | zero =>
        intro hb hhi
        obtain ⟨r, hr, hs, hl'⟩ := put 0 (by omega) (fun h => by omega) hhi
        refine ⟨r, Ev.step (fun k => by rw [spec_SortList.l1]) ?_, hs, hl'⟩
        simp only [Option.bind_some, rd_nat, getD_get hj]
        exact ev_neg (by omega) (ev_pos (by omega) (ev_pos (by omega) (ev_pos (by simp; omega) (ev_pos (by omega) (ev_pos (by omega) (ev_pos (by simp) (ev_pos (by simp; omega) hr)))))))
      | succ b ihb =>
        intro hb hhi
        have e1 : wrap64 (((b + 1 : Nat) : Int) - 1) = (b : Int) := by rw [w64 (by omega) (by omega)]; omega
        by_cases c1 : s.getD b 0 > l[j]
        · obtain ⟨r, hr, hs, hl'⟩ := ihb (by omega) (fun i i1 i2 => by
            by_cases e : i = b
            · subst e; omega
            · exact hhi i (by omega) i2)
          refine ⟨r, Ev.step (fun k => by rw [spec_SortList.l1]) ?_, hs, hl'⟩
          rw [e1, rd_nat, rd_nat, getD_get hj]
          exact ev_pos (by omega) (ev_pos (by omega) (ev_pos (by omega) (ev_pos (by omega) (ev_pos (by omega) (ev_pos c1 hr)))))
        · by_cases c2 : s.getD b 0 = l[j]
          · obtain ⟨r, hr, hs, hl'⟩ := same.out (by rw [← c2]; exact getD_mem (by omega))
            refine ⟨r, Ev.step (fun k => by rw [spec_SortList.l1]) ?_, hs, hl'⟩
            rw [e1, rd_nat, rd_nat, getD_get hj]
            exact ev_pos (by omega) (ev_pos (by omega) (ev_pos (by omega) (ev_pos (by omega) (ev_pos (by omega) (ev_neg c1 (ev_pos c2 hr))))))
          · obtain ⟨r, hr, hs, hl'⟩ := put (b + 1) (by omega) (fun _ => by rw [Nat.add_sub_cancel]; omega) hhi
            refine ⟨r, Ev.step (fun k => by rw [spec_SortList.l1]) ?_, hs, hl'⟩
            simp only [Option.bind_some]
            rw [e1, rd_nat, rd_nat, getD_get hj, Int.toNat_natCast]
            exact ev_pos (by omega) (ev_pos (by omega) (ev_pos (by omega) (ev_pos (by omega) (ev_pos (by omega) (ev_neg c1 (ev_neg c2 (ev_pos (by omega) (ev_pos (by omega) (ev_pos (by simp; omega) (ev_pos (by simp; omega) (ev_pos (by simp; omega) hr)))))))))))
    obtain ⟨r, hr, hs, hl'⟩ := inner s.length (by omega) (fun i i1 i2 => by omega)
    refine ⟨r, Ev.step (fun k => by rw [spec_SortList.l0]) ?_, hs, hl'⟩
    exact ev_pos (by omega) hr
theorem spec_SortList.ev (l : List Int) (hl : l.length ≤ 1000000000) : ∃ r, Ev (fun k => spec_SortList.f k l) r ∧ IsSort l r ∧ r.length ≤ l.length := by
  unfold spec_SortList.f
  exact spec_SortList.l0_ev l hl l.length 0 [] (by omega) (by simp) ⟨.nil, by simp⟩

/-! spec_l1In -/
theorem spec_l1In.eq (a b c : Int) : spec_l1In.f a b c = some (decide (b ≤ a ∧ a ≤ c)) := by
  unfold spec_l1In.f
  by_cases h : b ≤ a <;> simp [h]

/-! spec_l2Small -/
theorem spec_l2Small.eq (a : Int) : spec_l2Small.f a = some (decide (-1000000 ≤ a ∧ a ≤ 1000000)) := by
  unfold spec_l2Small.f
  rw [spec_l1In.eq]; rfl

/-! spec_l2All -/
theorem spec_l2All.l0_ev (l : List Int) (hl : l.length ≤ 1048576) : ∀ (d j : Nat), j + d = l.length → Ev (fun k => spec_l2All.l0 k l (j : Int)) (B ((∀ x ∈ l.drop j, -1000000 ≤ x ∧ x ≤ 1000000) ∧ l.length ≤ 300)) := by
  intro d
  induction d with
  | zero =>
    intro j h1
    refine Ev.step (fun k => by rw [spec_l2All.l0]) ?_
    rw [List.drop_eq_nil_of_le (by omega)]
    refine ev_neg (by omega) ?_
    rw [B_congr (q := (l.length : Int) ≤ 300) ⟨fun h => by have := h.2; omega, fun h => ⟨by simp, by omega⟩⟩, ← B_dec]
    exact Ev.now _
  | succ d ih =>
    intro j h1
    have hj : j < l.length := by omega
    refine Ev.step (fun k => by rw [spec_l2All.l0]) ?_
    rw [wadd1 (j := j) (by omega), rd_nat, getD_get hj, spec_l2Small.eq, List.drop_eq_getElem_cons hj]
    refine ev_pos (by omega) (ev_pos (by omega) ?_)
    simp only [Option.bind_some]
    by_cases c : -1000000 ≤ l[j] ∧ l[j] ≤ 1000000
    · refine ev_pos (by simpa using c) ?_
      have := ih (j + 1) (by omega)
      rwa [B_congr (q := (∀ x ∈ l.drop (j + 1), -1000000 ≤ x ∧ x ≤ 1000000) ∧ l.length ≤ 300) ⟨fun h => ⟨fun x hx => h.1 x (List.mem_cons_of_mem _ hx), h.2⟩, fun h => ⟨fun x hx => by
        rcases List.mem_cons.1 hx with rfl | hx
        · exact c
        · exact h.1 x hx, h.2⟩⟩]
    · refine ev_neg (by simpa using c) ?_
      rw [B_false (fun h => c (h.1 _ (List.mem_cons_self ..)))]
      exact Ev.now _
theorem spec_l2All.ev (l : List Int) (hl : l.length ≤ 1048576) : Ev (fun k => spec_l2All.f k l) (B ((∀ x ∈ l, -1000000 ≤ x ∧ x ≤ 1000000) ∧ l.length ≤ 300)) := by
  unfold spec_l2All.f
  have := spec_l2All.l0_ev l hl l.length 0 (by omega)
  rwa [List.drop_zero] at this

/-! spec_SumsOf -/
/-- The sums of the first i numbers of a with all of b, and of the next one with the first j of b. -/
def SumPart (a b out : List Int) (i j : Nat) : Prop := ∀ x, x ∈ out ↔ (∃ p q : Nat, p < a.length ∧ q < b.length ∧ (p < i ∨ (p = i ∧ q < j)) ∧ x = a.getD p 0 + b.getD q 0)
def SumsV (a b : List Int) (r : List Int) : Prop := r.Pairwise (· < ·) ∧ ∀ x, x ∈ r ↔ ∃ p q : Nat, p < a.length ∧ q < b.length ∧ x = a.getD p 0 + b.getD q 0
def SumOk (a : List Int) : Prop := (∀ x ∈ a, -1000000 ≤ x ∧ x ≤ 1000000) ∧ a.length ≤ 300
theorem SumPart.put {a b out : List Int} {i j : Nat} (h : SumPart a b out i j) (hi : i < a.length) (hj : j < b.length) : SumPart a b (out ++ [a.getD i 0 + b.getD j 0]) i (j + 1) := by
  intro x
  rw [List.mem_append, List.mem_singleton, h x]
  constructor
  · rintro (⟨p, q, h1, h2, h3, h4⟩ | h)
    · exact ⟨p, q, h1, h2, by omega, h4⟩
    · exact ⟨i, j, hi, hj, by omega, h⟩
  · rintro ⟨p, q, h1, h2, h3, h4⟩
    by_cases e : p = i ∧ q = j
    · obtain ⟨rfl, rfl⟩ := e
      exact .inr h4
    · exact .inl ⟨p, q, h1, h2, by omega, h4⟩
theorem SumPart.next {a b out : List Int} {i : Nat} (h : SumPart a b out i b.length) : SumPart a b out (i + 1) 0 := by
  intro x
  rw [h x]
  constructor
  · rintro ⟨p, q, h1, h2, h3, h4⟩
    exact ⟨p, q, h1, h2, by omega, h4⟩
  · rintro ⟨p, q, h1, h2, h3, h4⟩
    exact ⟨p, q, h1, h2, by omega, h4⟩
theorem SumPart.start (a b : List Int) : SumPart a b [] 0 0 := by
  intro x
  simp only [List.not_mem_nil, false_iff]
  rintro ⟨p, q, h1, h2, h3, h4⟩
  omega
theorem SumPart.sums {a b out r : List Int} (h : SumPart a b out a.length 0) (hs : IsSort out r) : SumsV a b r := by
  refine ⟨hs.1, fun x => ?_⟩
  rw [hs.2, h x]
  constructor
  · rintro ⟨p, q, h1, h2, h3, h4⟩
    exact ⟨p, q, h1, h2, h4⟩
  · rintro ⟨p, q, h1, h2, h4⟩
    exact ⟨p, q, h1, h2, by omega, h4⟩
theorem sum_wrap {a b : List Int} (ha : SumOk a) (hb : SumOk b) {i j : Nat} (hi : i < a.length) (hj : j < b.length) : wrap64 (a.getD i 0 + b.getD j 0) = a.getD i 0 + b.getD j 0 := by
  have h1 := ha.1 _ (getD_mem hi)
  have h2 := hb.1 _ (getD_mem hj)
  exact w64 (by omega) (by omega)
theorem spec_SumsOf.l1_ev (a b : List Int) (ha : SumOk a) (hb : SumOk b) (i : Nat) (hi : i < a.length) (P : List Int → Prop) (hn : ∀ out, SumPart a b out (i + 1) 0 → out.length ≤ 300 * (i + 1) → ∃ r, Ev (fun k => spec_SumsOf.l0 k a b out ((i + 1 : Nat) : Int)) r ∧ P r) : ∀ (d j : Nat) (out : List Int), j + d = b.length → out.length ≤ 300 * i + j → SumPart a b out i j → ∃ r, Ev (fun k => spec_SumsOf.l1 k a b out (i : Int) (j : Int)) r ∧ P r := by
  have hal := ha.2
  have hbl := hb.2
  intro d
  induction d with
  | zero =>
    intro j out h1 h2 h3
    obtain rfl : j = b.length := by omega
    obtain ⟨r, hr, hp⟩ := hn out h3.next (by omega)
    refine ⟨r, Ev.step (fun k => by rw [spec_SumsOf.l1]) ?_, hp⟩
    rw [wadd1 (j := i) (by omega)]
    exact ev_neg (by omega) hr
  | succ d ih =>
    intro j out h1 h2 h3
    have hj : j < b.length := by omega
    obtain ⟨r, hr, hp⟩ := ih (j + 1) (out ++ [a.getD i 0 + b.getD j 0]) (by omega) (by simp; omega) (h3.put hi hj)
    refine ⟨r, Ev.step (fun k => by rw [spec_SumsOf.l1]) ?_, hp⟩
    rw [wadd1 (j := j) (by omega), rd_nat, rd_nat, sum_wrap ha hb hi hj]
    exact ev_pos (by omega) (ev_pos (by omega) (ev_pos (by omega) (ev_pos (by omega) (ev_pos (by omega) hr))))
theorem spec_SumsOf.l0_ev (a b : List Int) (ha : SumOk a) (hb : SumOk b) : ∀ (d i : Nat) (out : List Int), i + d = a.length → out.length ≤ 300 * i → SumPart a b out i 0 → ∃ r, Ev (fun k => spec_SumsOf.l0 k a b out (i : Int)) r ∧ (SumsV a b r ∧ r.length ≤ 1000000) := by
  have hal := ha.2
  have hbl := hb.2
  intro d
  induction d with
  | zero =>
    intro i out h1 h2 h3
    obtain rfl : i = a.length := by omega
    obtain ⟨r, hr, hs, hl⟩ := spec_SortList.ev out (by omega)
    refine ⟨r, Ev.step (fun k => by rw [spec_SumsOf.l0]) ?_, h3.sums hs, by omega⟩
    exact ev_neg (by omega) (Ev.bind hr (Ev.now _))
  | succ d ih =>
    intro i out h1 h2 h3
    obtain ⟨r, hr, hp⟩ := spec_SumsOf.l1_ev a b ha hb i (by omega) _ (fun out' p1 p2 => ih (i + 1) out' (by omega) (by omega) p1) b.length 0 out (by omega) (by omega) h3
    refine ⟨r, Ev.step (fun k => by rw [spec_SumsOf.l0]) ?_, hp⟩
    exact ev_pos (by omega) hr
theorem spec_SumsOf.ev (a b : List Int) (ha : a.length ≤ 1048576) (hb : b.length ≤ 1048576) : ∃ r, Ev (fun k => spec_SumsOf.f k a b) r ∧ (((SumOk a ∧ SumOk b) ∧ SumsV a b r) ∨ (¬ (SumOk a ∧ SumOk b) ∧ r = [])) ∧ r.length ≤ 1000000 := by
  unfold spec_SumsOf.f
  simp only [Option.bind_some]
  by_cases ca : SumOk a
  · by_cases cb : SumOk b
    · obtain ⟨r, hr, hp, hl⟩ := spec_SumsOf.l0_ev a b ca cb a.length 0 [] (by omega) (by simp) (SumPart.start a b)
      refine ⟨r, Ev.bind (spec_l2All.ev a ha) ?_, .inl ⟨⟨ca, cb⟩, hp⟩, hl⟩
      rw [B_true (show (∀ x ∈ a, -1000000 ≤ x ∧ x ≤ 1000000) ∧ a.length ≤ 300 from ca)]
      refine ev_pos rfl (Ev.bind (spec_l2All.ev b hb) ?_)
      rw [B_true (show (∀ x ∈ b, -1000000 ≤ x ∧ x ≤ 1000000) ∧ b.length ≤ 300 from cb)]
      refine Ev.step (fun k => by rw [spec_SumsOf.j0]) ?_
      exact ev_neg (by simp) hr
    · refine ⟨[], Ev.bind (spec_l2All.ev a ha) ?_, .inr ⟨fun h => cb h.2, rfl⟩, by simp⟩
      rw [B_true (show (∀ x ∈ a, -1000000 ≤ x ∧ x ≤ 1000000) ∧ a.length ≤ 300 from ca)]
      refine ev_pos rfl (Ev.bind (spec_l2All.ev b hb) ?_)
      rw [B_false (show ¬ ((∀ x ∈ b, -1000000 ≤ x ∧ x ≤ 1000000) ∧ b.length ≤ 300) from cb)]
      refine Ev.step (fun k => by rw [spec_SumsOf.j0]) ?_
      exact ev_pos (by simp) (Ev.now _)
  · refine ⟨[], Ev.bind (spec_l2All.ev a ha) ?_, .inr ⟨fun h => ca h.1, rfl⟩, by simp⟩
    rw [B_false (show ¬ ((∀ x ∈ a, -1000000 ≤ x ∧ x ≤ 1000000) ∧ a.length ≤ 300) from ca)]
    refine ev_neg (by simp) ?_
    refine Ev.step (fun k => by rw [spec_SumsOf.j0]) ?_
    exact ev_pos rfl (Ev.now _)

/-! impl_SortList -/
theorem impl_SortList.eq (l : List Int) (hl : l.length ≤ 1000000000) : ∃ r, impl_SortList.f l = some r ∧ IsSort l r ∧ r.length ≤ l.length := by
  refine ⟨_, by unfold impl_SortList.f; rw [if_pos hl], sort_compact l, ?_⟩
  have := Lib.compact_length_le (l.mergeSort fun x y => decide (x ≤ y))
  rwa [List.length_mergeSort] at this

/-! impl_within -/
theorem impl_within.eq (a b c : Int) : impl_within.f a b c = some (decide (b ≤ a ∧ a ≤ c)) := by
  unfold impl_within.f
  by_cases h : b ≤ a <;> simp [h]

/-! impl_allWithin -/
theorem impl_allWithin.l0_ev (l : List Int) (lo hi : Int) (hl : l.length < 4611686018427387904) : ∀ (d j : Nat), j + d = l.length → Ev (fun k => impl_allWithin.l0 k lo hi l (l.length : Int) (j : Int)) (B (∀ x ∈ l.drop j, lo ≤ x ∧ x ≤ hi)) := by
  intro d
  induction d with
  | zero =>
    intro j h1
    refine Ev.step (fun k => by rw [impl_allWithin.l0]) ?_
    rw [B_true (by rw [List.drop_of_length_le (by omega)]; simp)]
    exact ev_neg (by omega) (Ev.now _)
  | succ d ih =>
    intro j h1
    have hj : j < l.length := by omega
    refine Ev.step (fun k => by rw [impl_allWithin.l0]) ?_
    rw [wadd1 (by omega), rd_nat, getD_get hj, List.drop_eq_getElem_cons hj, impl_within.eq]
    simp only [Option.bind_some]
    refine ev_pos (by omega) (ev_pos (by omega) (ev_pos (by omega) ?_))
    by_cases e : lo ≤ l[j] ∧ l[j] ≤ hi
    · refine ev_pos (decide_eq_true e) ?_
      rw [B_congr (q := ∀ x ∈ l.drop (j + 1), lo ≤ x ∧ x ≤ hi) (by simp only [List.forall_mem_cons, e.1, e.2, and_self, true_and])]
      exact ih (j + 1) (by omega)
    · refine ev_neg (by simpa using e) ?_
      rw [B_false (fun h => e (h _ List.mem_cons_self))]
      exact Ev.now _
theorem impl_allWithin.ev (l : List Int) (lo hi : Int) (hl : l.length < 4611686018427387904) : Ev (fun k => impl_allWithin.f k l lo hi) (B (∀ x ∈ l, lo ≤ x ∧ x ≤ hi)) := by
  unfold impl_allWithin.f
  exact impl_allWithin.l0_ev l lo hi hl l.length 0 (by omega)

/-! impl_SumsOf -/
theorem impl_SumsOf.l1_ev (a b : List Int) (ha : SumOk a) (hb : SumOk b) (i : Nat) (hi : i < a.length) (P : List Int → Prop) (hn : ∀ out, SumPart a b out (i + 1) 0 → out.length ≤ 300 * (i + 1) → ∃ r, Ev (fun k => impl_SumsOf.l0 k b out a (a.length : Int) ((i + 1 : Nat) : Int)) r ∧ P r) : ∀ (d j : Nat) (out : List Int), j + d = b.length → out.length ≤ 300 * i + j → SumPart a b out i j → ∃ r, Ev (fun k => impl_SumsOf.l1 k b out (a.getD i 0) a (a.length : Int) (i : Int) b (b.length : Int) (j : Int)) r ∧ P r := by
  have hal := ha.2
  have hbl := hb.2
  intro d
  induction d with
  | zero =>
    intro j out h1 h2 h3
    obtain rfl : j = b.length := by omega
    obtain ⟨r, hr, hp⟩ := hn out h3.next (by omega)
    refine ⟨r, Ev.step (fun k => by rw [impl_SumsOf.l1]) ?_, hp⟩
    rw [wadd1 (j := i) (by omega)]
    exact ev_neg (by omega) hr
  | succ d ih =>
    intro j out h1 h2 h3
    have hj : j < b.length := by omega
    obtain ⟨r, hr, hp⟩ := ih (j + 1) (out ++ [a.getD i 0 + b.getD j 0]) (by omega) (by simp; omega) (h3.put hi hj)
    refine ⟨r, Ev.step (fun k => by rw [impl_SumsOf.l1]) ?_, hp⟩
    rw [wadd1 (j := j) (by omega), rd_nat, sum_wrap ha hb hi hj]
    exact ev_pos (by omega) (ev_pos (by omega) (ev_pos (by omega) (ev_pos (by omega) hr)))
theorem impl_SumsOf.l0_ev (a b : List Int) (ha : SumOk a) (hb : SumOk b) : ∀ (d i : Nat) (out : List Int), i + d = a.length → out.length ≤ 300 * i → SumPart a b out i 0 → ∃ r, Ev (fun k => impl_SumsOf.l0 k b out a (a.length : Int) (i : Int)) r ∧ (SumsV a b r ∧ r.length ≤ 1000000) := by
  have hal := ha.2
  have hbl := hb.2
  intro d
  induction d with
  | zero =>
    intro i out h1 h2 h3
    obtain rfl : i = a.length := by omega
    obtain ⟨r, hr, hs, hl⟩ := impl_SortList.eq out (by omega)
    refine ⟨r, Ev.step (fun k => by rw [impl_SumsOf.l0]) ?_, h3.sums hs, by omega⟩
    refine ev_neg (by omega) ?_
    rw [hr]
    exact Ev.now _
  | succ d ih =>
    intro i out h1 h2 h3
    obtain ⟨r, hr, hp⟩ := impl_SumsOf.l1_ev a b ha hb i (by omega) _ (fun out' p1 p2 => ih (i + 1) out' (by omega) (by omega) p1) b.length 0 out (by omega) (by omega) h3
    refine ⟨r, Ev.step (fun k => by rw [impl_SumsOf.l0]) ?_, hp⟩
    rw [rd_nat]
    exact ev_pos (by omega) (ev_pos (by omega) (ev_pos (by omega) hr))
theorem impl_SumsOf.ev (a b : List Int) (ha : a.length ≤ 1048576) (hb : b.length ≤ 1048576) : ∃ r, Ev (fun k => impl_SumsOf.f k a b) r ∧ (((SumOk a ∧ SumOk b) ∧ SumsV a b r) ∨ (¬ (SumOk a ∧ SumOk b) ∧ r = [])) := by
  unfold impl_SumsOf.f
  have bad : Box (Ev (fun k => impl_SumsOf.j0 k a b true) []) := ⟨by
    refine Ev.step (fun k => by rw [impl_SumsOf.j0]) ?_
    exact ev_pos rfl (Ev.now _)⟩
  by_cases c1 : ∀ x ∈ a, -1000000 ≤ x ∧ x ≤ 1000000
  · by_cases c2 : ∀ x ∈ b, -1000000 ≤ x ∧ x ≤ 1000000
    · by_cases c3 : a.length ≤ 300
      · by_cases c4 : b.length ≤ 300
        · obtain ⟨r, hr, hp, hl⟩ := impl_SumsOf.l0_ev a b ⟨c1, c3⟩ ⟨c2, c4⟩ a.length 0 [] (by omega) (by simp) (SumPart.start a b)
          refine ⟨r, Ev.bind (impl_allWithin.ev a _ _ (by omega)) ?_, .inl ⟨⟨⟨c1, c3⟩, c2, c4⟩, hp⟩⟩
          rw [B_true c1]
          refine ev_pos rfl (Ev.bind (impl_allWithin.ev b _ _ (by omega)) ?_)
          rw [B_true c2]
          refine ev_pos rfl (ev_neg (by omega) ?_)
          rw [decide_eq_false (by omega)]
          refine Ev.step (fun k => by rw [impl_SumsOf.j0]) ?_
          exact ev_neg (by simp) hr
        · refine ⟨[], Ev.bind (impl_allWithin.ev a _ _ (by omega)) ?_, .inr ⟨fun h => c4 h.2.2, rfl⟩⟩
          rw [B_true c1]
          refine ev_pos rfl (Ev.bind (impl_allWithin.ev b _ _ (by omega)) ?_)
          rw [B_true c2]
          refine ev_pos rfl (ev_neg (by omega) ?_)
          rw [decide_eq_true (by omega)]
          exact bad.out
      · refine ⟨[], Ev.bind (impl_allWithin.ev a _ _ (by omega)) ?_, .inr ⟨fun h => c3 h.1.2, rfl⟩⟩
        rw [B_true c1]
        refine ev_pos rfl (Ev.bind (impl_allWithin.ev b _ _ (by omega)) ?_)
        rw [B_true c2]
        exact ev_pos rfl (ev_pos (by omega) bad.out)
    · refine ⟨[], Ev.bind (impl_allWithin.ev a _ _ (by omega)) ?_, .inr ⟨fun h => c2 h.2.1, rfl⟩⟩
      rw [B_true c1]
      refine ev_pos rfl (Ev.bind (impl_allWithin.ev b _ _ (by omega)) ?_)
      rw [B_false c2]
      exact ev_neg (by simp) bad.out
  · refine ⟨[], Ev.bind (impl_allWithin.ev a _ _ (by omega)) ?_, .inr ⟨fun h => c1 h.1.1, rfl⟩⟩
    rw [B_false c1]
    exact ev_neg (by simp) bad.out

end Go.Proofs.Ytbagfnppeidonaa.PFnExactSumsOf
namespace Go.Proofs.Ytbagfnppeidonaa.Pure
open Go.RowKit Go.Proofs.YtbagfnppeidonaaW.PrintWords Go.Proofs.YtbagfnppeidonaaW.PrintLast Go.Proofs.YtbagfnppeidonaaW.PrintMore Go.Proofs.YtbagfnppeidonaaM
set_option linter.unusedVariables false
set_option linter.unusedSimpArgs false
open Go.Proofs.Ytbagfnppeidonaa.PFnExactSumsOf
theorem FnExactSumsOf : laws_FnExactSumsOf.Pure := by
  intro l0 l1 hl0 hm0 hw0 hl1 hm1 hw1
  refine Ev.rounds ?_
  unfold laws_FnExactSumsOf.f
  by_cases h0 : (l0.length : Int) > 1048576
  · exact ev_pos h0 (Ev.now _)
  · refine ev_neg h0 ?_
    by_cases h1 : (l1.length : Int) > 1048576
    · exact ev_pos h1 (Ev.now _)
    · refine ev_neg h1 ?_
      have hx0 : l0.length ≤ 1048576 := by omega
      have hx1 : l1.length ≤ 1048576 := by omega
      obtain ⟨r, hr1, hv1, hlen⟩ := spec_SumsOf.ev l0 l1 hx0 hx1
      obtain ⟨r', hr2, hv2⟩ := impl_SumsOf.ev l0 l1 hx0 hx1
      obtain rfl : r = r' := by
        rcases hv1 with ⟨h1, hv1⟩ | ⟨h1, rfl⟩
        · rcases hv2 with ⟨h2, hv2⟩ | ⟨h2, rfl⟩
          · exact asc_ext hv1.1 hv2.1 (fun x => (hv1.2 x).trans (hv2.2 x).symm)
          · exact absurd h1 h2
        · rcases hv2 with ⟨h2, hv2⟩ | ⟨h2, rfl⟩
          · exact absurd h2 h1
          · rfl
      refine Ev.bind (laws_toIntS.ev l0 hx0) ?_
      refine Ev.bind (laws_toIntS.ev l1 hx1) ?_
      refine Ev.bind hr1 ?_
      refine Ev.bind (laws_toIntS.ev l0 hx0) ?_
      refine Ev.bind (laws_toIntS.ev l1 hx1) ?_
      refine Ev.bind hr2 ?_
      refine Ev.bind (laws_eqIntS.ev _ _ (by omega)) ?_
      rw [B_true rfl]
      refine ev_pos rfl ?_
      refine Ev.bind (laws_toIntS.ev l0 hx0) ?_
      refine Ev.bind (laws_eqIntS.ev _ _ (by omega)) ?_
      rw [B_true rfl]
      refine ev_pos rfl ?_
      refine Ev.bind (laws_toIntS.ev l1 hx1) ?_
      refine Ev.bind (laws_eqIntS.ev _ _ (by omega)) ?_
      rw [B_true rfl]
      refine ev_pos rfl ?_
      refine Ev.bind (laws_markIntS.ev l0 (by omega) 1 (by omega) (by omega)) ?_
      refine Ev.bind (laws_markIntS.ev l1 (by omega) _ (by simp only []; omega) (by simp only []; omega)) ?_
      refine ev_neg (by simp only []; omega) ?_
      refine Ev.bind (laws_eqIntS.ev _ _ (by omega)) ?_
      rw [B_true rfl]
      refine Ev.step (fun k => by rw [laws_FnExactSumsOf.j0]) ?_
      refine ev_neg (by simp) ?_
      refine Ev.bind (laws_markIntS.ev _ (by omega) 1 (by omega) (by omega)) ?_
      refine Ev.bind (laws_heldIntS.ev _ (by omega) 1 (by omega) (by omega)) ?_
      refine ev_neg (by omega) (ev_pos rfl ?_)
      refine Ev.bind (laws_toIntS.ev l0 hx0) ?_
      refine Ev.bind (laws_toIntS.ev l1 hx1) ?_
      refine Ev.bind hr2 ?_
      refine Ev.bind (laws_eqIntS.ev _ _ (by omega)) ?_
      rw [B_true rfl]
      refine ev_pos rfl ?_
      refine Ev.bind (laws_heldIntS.ev _ (by omega) 1 (by omega) (by omega)) ?_
      exact ev_neg (by omega) (ev_pos rfl (Ev.now _))

end Go.Proofs.Ytbagfnppeidonaa.Pure
