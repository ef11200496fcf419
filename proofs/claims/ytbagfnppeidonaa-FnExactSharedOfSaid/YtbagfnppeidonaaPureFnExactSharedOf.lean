/- The program's SharedOf answers what the reference's answers, for every two lists of numbers, in memory of its own (lists of more than 1048576 numbers are let pass by the law itself). No further condition. -/
import Derived.Test.YtbagfnppeidonaaPFnExactSharedOfx1
import Derived.Test.YtbagfnppeidonaaPFnExactSharedOfx2
import Derived.Test.YtbagfnppeidonaaPFnExactSharedOfx3
import Derived.Test.YtbagfnppeidonaaPFnExactSharedOfx4
import Derived.Test.YtbagfnppeidonaaPFnExactSharedOfx5
import Derived.Test.YtbagfnppeidonaaPFnExactSharedOfx6
import Derived.Test.YtbagfnppeidonaaPFnExactSharedOfx7
import Derived.Test.YtbagfnppeidonaaPFnExactSharedOfx8
import Derived.Test.YtbagfnppeidonaaPFnExactSharedOfx9
import Derived.Test.YtbagfnppeidonaaPFnExactSharedOfx10
import Derived.Test.YtbagfnppeidonaaM0
import Derived.Test.YtbagfnppeidonaaM1
import Derived.Test.YtbagfnppeidonaaM2
import Derived.Test.YtbagfnppeidonaaM3
import Derived.Test.YtbagfnppeidonaaM4
import Derived.Test.YtbagfnppeidonaaMQ
namespace Go.Proofs.Ytbagfnppeidonaa.PFnExactSharedOf
open Go.RowKit Go.Proofs.YtbagfnppeidonaaW.PrintWords Go.Proofs.YtbagfnppeidonaaW.PrintLast Go.Proofs.YtbagfnppeidonaaW.PrintMore Go.Proofs.YtbagfnppeidonaaM
set_option linter.unusedVariables false
set_option linter.unusedSimpArgs false
/-! laws_toIntS -/
theorem laws_toIntS.l0_ev (xs : List Int) (hx : xs.length ≤ 1048576) : ∀ (d j : Nat) (acc : List Int), j + d = xs.length → acc.length = xs.length → acc.take j = xs.take j → Ev (fun k => laws_toIntS.l0 k xs acc (j : Int)) xs := by
  intro d
  induction d with
  | zero =>
    intro j acc h1 h2 h3
    have e : acc = xs := by rw [← List.take_of_length_le (l := acc) (i := j) (by omega), h3, List.take_of_length_le (by omega)]
    subst e
    refine Ev.step (fun k => by rw [laws_toIntS.l0]) ?_
    refine ev_neg (by omega) (Ev.now _)
  | succ d ih =>
    intro j acc h1 h2 h3
    refine Ev.step (fun k => by rw [laws_toIntS.l0]) ?_
    refine ev_pos (by omega) (ev_pos (by omega) (ev_pos (by omega) ?_))
    rw [wadd1 (by omega)]
    refine ih (j + 1) _ (by omega) (by simp; omega) ?_
    rw [Int.toNat_natCast, rd_nat]
    exact set_take acc xs j _ (by omega) (by omega) h3 (getD_get (by omega)).symm
theorem laws_toIntS.ev (xs : List Int) (hx : xs.length ≤ 1048576) : Ev (fun k => laws_toIntS.f k xs) xs := by
  unfold laws_toIntS.f
  refine ev_pos (by omega) (ev_pos (by omega) ?_)
  rw [Int.toNat_natCast]
  exact laws_toIntS.l0_ev xs hx xs.length 0 _ (by omega) (by simp) (by simp)

/-! laws_eqIntS -/
theorem laws_eqIntS.l0_ev (x y : List Int) (hl : x.length = y.length) (hx : x.length < 4611686018427387904) : ∀ (d j : Nat), j + d = x.length → Ev (fun k => laws_eqIntS.l0 k x y (j : Int)) (B (x.drop j = y.drop j)) := by
  intro d
  induction d with
  | zero =>
    intro j h1
    refine Ev.step (fun k => by rw [laws_eqIntS.l0]) ?_
    rw [B_true (by rw [List.drop_of_length_le (by omega), List.drop_of_length_le (by omega)])]
    exact ev_neg (by omega) (Ev.now _)
  | succ d ih =>
    intro j h1
    have hj : j < x.length := by omega
    have hj' : j < y.length := by omega
    refine Ev.step (fun k => by rw [laws_eqIntS.l0]) ?_
    refine ev_pos (by omega) (ev_pos (by omega) (ev_pos (by omega) ?_))
    rw [wadd1 (by omega), rd_nat, rd_nat, getD_get hj, getD_get hj', List.drop_eq_getElem_cons hj, List.drop_eq_getElem_cons hj']
    by_cases e : x[j] = y[j]
    · refine ev_pos e ?_
      have := ih (j + 1) (by omega)
      rw [B_congr (q := x.drop (j + 1) = y.drop (j + 1)) (by simp only [e, List.cons.injEq, true_and])]
      exact this
    · refine ev_neg e ?_
      rw [B_false (fun h => e (List.cons.inj h).1)]
      exact Ev.now _
theorem laws_eqIntS.ev (x y : List Int) (hx : x.length < 4611686018427387904) : Ev (fun k => laws_eqIntS.f k x y) (B (x = y)) := by
  unfold laws_eqIntS.f
  by_cases e : x.length = y.length
  · refine ev_pos (by omega) ?_
    exact laws_eqIntS.l0_ev x y e hx x.length 0 (by omega)
  · refine ev_neg (by omega) ?_
    rw [B_false (fun h => e (by rw [h]))]
    exact Ev.now _

/-! laws_markIntS -/
theorem laws_markIntS.l0_ev (m : Int) (hm : 0 ≤ m) (hm' : m ≤ 1000000000) : ∀ (d j : Nat) (x : List Int), j + d = x.length → x.length < 1000000000000 → x.take j = marksI j m → Ev (fun k => laws_markIntS.l0 k x (m + j) (j : Int)) (m + x.length, marksI x.length m) := by
  intro d
  induction d with
  | zero =>
    intro j x h1 h2 h3
    refine Ev.step (fun k => by rw [laws_markIntS.l0]) ?_
    rw [List.take_of_length_le (by omega)] at h3
    have e : j = x.length := by omega
    subst e
    rw [← h3]
    exact ev_neg (by omega) (Ev.now _)
  | succ d ih =>
    intro j x h1 h2 h3
    refine Ev.step (fun k => by rw [laws_markIntS.l0]) ?_
    have e : Box (wrap64 (m + (j : Int) + 1) = m + ((j + 1 : Nat) : Int)) := ⟨by rw [w64 (by omega) (by omega)]; omega⟩
    rw [wadd1 (by omega), e.out, Int.toNat_natCast]
    refine ev_pos (by omega) (ev_pos (by omega) ?_)
    have := ih (j + 1) (x.set j (m + j)) (by simp; omega) (by simp; omega) (by
      rw [marksI_snoc, ← h3, List.take_succ_eq_append_getElem (by simp; omega), List.take_set_of_le (by omega)]
      simp)
    simpa using this
theorem laws_markIntS.ev (x : List Int) (hx : x.length < 1000000000000) (m : Int) (hm : 0 ≤ m) (hm' : m ≤ 1000000000) : Ev (fun k => laws_markIntS.f k x m) (m + x.length, marksI x.length m) := by
  unfold laws_markIntS.f
  have := laws_markIntS.l0_ev m hm hm' x.length 0 x (by omega) hx (by simp [marksI])
  simpa using this

/-! laws_heldIntS -/
theorem laws_heldIntS.l0_ev (m : Int) (hm : 0 ≤ m) (hm' : m ≤ 1000000000) (n : Nat) (hn : n < 1000000000000) : ∀ (d j : Nat), j + d = n → Ev (fun k => laws_heldIntS.l0 k (marksI n m) (m + j) (j : Int)) (m + n) := by
  intro d
  induction d with
  | zero =>
    intro j h1
    refine Ev.step (fun k => by rw [laws_heldIntS.l0]) ?_
    have e : j = n := by omega
    subst e
    exact ev_neg (by rw [marksI_length]; omega) (Ev.now _)
  | succ d ih =>
    intro j h1
    refine Ev.step (fun k => by rw [laws_heldIntS.l0]) ?_
    have e : Box (wrap64 (m + (j : Int) + 1) = m + ((j + 1 : Nat) : Int)) := ⟨by rw [w64 (by omega) (by omega)]; omega⟩
    rw [wadd1 (by omega), e.out, rd_nat, marksI_get n m j (by omega)]
    exact ev_pos (by rw [marksI_length]; omega) (ev_pos (by omega) (ev_pos rfl (ih (j + 1) (by omega))))
theorem laws_heldIntS.ev (n : Nat) (hn : n < 1000000000000) (m : Int) (hm : 0 ≤ m) (hm' : m ≤ 1000000000) : Ev (fun k => laws_heldIntS.f k (marksI n m) m) (m + n) := by
  unfold laws_heldIntS.f
  have := laws_heldIntS.l0_ev m hm hm' n hn n 0 (by omega)
  simpa using this

/-! spec_SortList -/
theorem spec_SortList.l0_ev (l : List Int) (hl : l.length ≤ 1000000000) : ∀ (d j : Nat) (s : List Int), j + d = l.length → s.length ≤ j → IsSort (l.take j) s → ∃ r, Ev (fun k => spec_SortList.l0 k l s (j : Int)) r ∧ IsSort l r ∧ r.length ≤ l.length := by
  intro d
  induction d with
  | zero =>
    intro j s h1 h2 h3
    rw [List.take_of_length_le (by omega)] at h3
    refine ⟨s, Ev.step (fun k => by rw [spec_SortList.l0]) ?_, h3, by omega⟩
    exact ev_neg (by omega) (Ev.now _)
  | succ d ih =>
    intro j s h1 h2 h3
    have hj : j < l.length := by omega
    have same : Box (l[j] ∈ s → ∃ r, Ev (fun k => spec_SortList.l0 k l s (wrap64 ((j : Int) + 1))) r ∧ IsSort l r ∧ r.length ≤ l.length) := Box.mk <| by
      intro hm
      rw [wadd1 (by omega)]
      refine ih (j + 1) s (by omega) (by omega) ⟨h3.1, fun x => ?_⟩
      rw [List.take_succ_eq_append_getElem hj, List.mem_append, List.mem_singleton, ← h3.2]
      constructor
      · intro h; exact .inl h
      · rintro (h | h)
        · exact h
        · rw [h]; exact hm
    have inner : ∀ (b : Nat), b ≤ s.length → (∀ i, b ≤ i → i < s.length → l[j] < s.getD i 0) → ∃ r, Ev (fun k => spec_SortList.l1 k l s (j : Int) (b : Int)) r ∧ IsSort l r ∧ r.length ≤ l.length := by
      have put : ∀ b : Nat, b ≤ s.length → (0 < b → s.getD (b - 1) 0 < l[j]) → (∀ i, b ≤ i → i < s.length → l[j] < s.getD i 0) → ∃ r, Ev (fun k => spec_SortList.l0 k l (s.take b ++ [l[j]] ++ ([] ++ s.drop b)) (wrap64 ((j : Int) + 1))) r ∧ IsSort l r ∧ r.length ≤ l.length := by
        intro b hb hlo hhi
        obtain ⟨p1, p2⟩ := insert_sorted h3.1 b hb l[j] hlo hhi
        rw [wadd1 (by omega), List.nil_append]
        refine ih (j + 1) _ (by omega) (by simp; omega) ⟨p1, fun x => ?_⟩
        rw [p2, List.take_succ_eq_append_getElem hj, List.mem_append, List.mem_singleton, h3.2]
      intro b
      induction b with
      | zero =>
        intro hb hhi
        obtain ⟨r, hr, hs, hl'⟩ := put 0 (by omega) (fun h => by omega) hhi
        refine ⟨r, Ev.step (fun k => by rw [spec_SortList.l1]) ?_, hs, hl'⟩
        simp only [Option.bind_some, rd_nat, getD_get hj]
        exact ev_neg (by omega) (ev_pos (by omega) (ev_pos (by omega) (ev_pos (by simp; omega) (ev_pos (by omega) (ev_pos (by omega) (ev_pos (by simp) (ev_pos (by simp; omega) hr)))))))
      | succ b ihb =>
        intro hb hhi
        have e1 : wrap64 (((b + 1 : Nat) : Int) - 1) = (b : Int) := by rw [w64 (by omega) (by omega)]; omega
        by_cases c1 : s.getD b 0 > l[j]
        · obtain ⟨r, hr, hs, hl'⟩ := ihb (by omega) (fun i i1 i2 => by
            by_cases e : i = b
            · subst e; omega
            · exact hhi i (by omega) i2)
          refine ⟨r, Ev.step (fun k => by rw [spec_SortList.l1]) ?_, hs, hl'⟩
          rw [e1, rd_nat, rd_nat, getD_get hj]
          exact ev_pos (by omega) (ev_pos (by omega) (ev_pos (by omega) (ev_pos (by omega) (ev_pos (by omega) (ev_pos c1 hr)))))
        · by_cases c2 : s.getD b 0 = l[j]
          · obtain ⟨r, hr, hs, hl'⟩ := same.out (by rw [← c2]; exact getD_mem (by omega))
            refine ⟨r, Ev.step (fun k => by rw [spec_SortList.l1]) ?_, hs, hl'⟩
            rw [e1, rd_nat, rd_nat, getD_get hj]
            exact ev_pos (by omega) (ev_pos (by omega) (ev_pos (by omega) (ev_pos (by omega) (ev_pos (by omega) (ev_neg c1 (ev_pos c2 hr))))))
          · obtain ⟨r, hr, hs, hl'⟩ := put (b + 1) (by omega) (fun _ => by rw [Nat.add_sub_cancel]; omega) hhi
            refine ⟨r, Ev.step (fun k => by rw [spec_SortList.l1]) ?_, hs, hl'⟩
            simp only [Option.bind_some]
            rw [e1, rd_nat, rd_nat, getD_get hj, Int.toNat_natCast]
            exact ev_pos (by omega) (ev_pos (by omega) (ev_pos (by omega) (ev_pos (by omega) (ev_pos (by omega) (ev_neg c1 (ev_neg c2 (ev_pos (by omega) (ev_pos (by omega) (ev_pos (by simp; omega) (ev_pos (by simp; omega) (ev_pos (by simp; omega) hr)))))))))))
    obtain ⟨r, hr, hs, hl'⟩ := inner s.length (by omega) (fun i i1 i2 => by omega)
    refine ⟨r, Ev.step (fun k => by rw [spec_SortList.l0]) ?_, hs, hl'⟩
    exact ev_pos (by omega) hr
theorem spec_SortList.ev (l : List Int) (hl : l.length ≤ 1000000000) : ∃ r, Ev (fun k => spec_SortList.f k l) r ∧ IsSort l r ∧ r.length ≤ l.length := by
  unfold spec_SortList.f
  exact spec_SortList.l0_ev l hl l.length 0 [] (by omega) (by simp) ⟨.nil, by simp⟩

/-! spec_HasNumber -/
theorem spec_HasNumber.l0_ev (l : List Int) (x : Int) (hl : l.length < 4611686018427387904) : ∀ (d j : Nat), j + d = l.length → Ev (fun k => spec_HasNumber.l0 k l x (j : Int)) (B (x ∈ l.drop j)) := by
  intro d
  induction d with
  | zero =>
    intro j h1
    refine Ev.step (fun k => by rw [spec_HasNumber.l0]) ?_
    rw [B_false (by rw [List.drop_of_length_le (by omega)]; simp)]
    exact ev_neg (by omega) (Ev.now _)
  | succ d ih =>
    intro j h1
    have hj : j < l.length := by omega
    refine Ev.step (fun k => by rw [spec_HasNumber.l0]) ?_
    rw [wadd1 (by omega), rd_nat, getD_get hj, List.drop_eq_getElem_cons hj]
    refine ev_pos (by omega) (ev_pos (by omega) ?_)
    by_cases e : l[j] = x
    · rw [B_true (by rw [e]; exact List.mem_cons_self)]
      exact ev_pos e (Ev.now _)
    · refine ev_neg e ?_
      rw [B_congr (q := x ∈ l.drop (j + 1)) (by rw [List.mem_cons]; exact ⟨fun h => h.resolve_left (Ne.symm e), .inr⟩)]
      exact ih (j + 1) (by omega)
theorem spec_HasNumber.ev (l : List Int) (x : Int) (hl : l.length < 4611686018427387904) : Ev (fun k => spec_HasNumber.f k l x) (B (x ∈ l)) := by
  unfold spec_HasNumber.f
  exact spec_HasNumber.l0_ev l x hl l.length 0 (by omega)

/-! spec_SharedOf -/
theorem spec_SharedOf.l0_ev (a b : List Int) (ha : a.length ≤ 1048576) (hb : b.length ≤ 1048576) : ∀ (d j : Nat) (out : List Int), j + d = a.length → out.length ≤ j → (∀ x, x ∈ out ↔ x ∈ a.take j ∧ x ∈ b) → ∃ r, Ev (fun k => spec_SharedOf.l0 k a b out (j : Int)) r ∧ r.Pairwise (· < ·) ∧ (∀ x, x ∈ r ↔ x ∈ a ∧ x ∈ b) ∧ r.length ≤ 1048576 := by
  intro d
  induction d with
  | zero =>
    intro j out h1 h2 h3
    rw [List.take_of_length_le (by omega)] at h3
    obtain ⟨r, hr, hs, hl⟩ := spec_SortList.ev out (by omega)
    refine ⟨r, Ev.step (fun k => by rw [spec_SharedOf.l0]) ?_, hs.1, fun x => (hs.2 x).trans (h3 x), by omega⟩
    exact ev_neg (by omega) (Ev.bind hr (Ev.now _))
  | succ d ih =>
    intro j out h1 h2 h3
    have hj : j < a.length := by omega
    have ht : ∀ x, x ∈ a.take (j + 1) ↔ x ∈ a.take j ∨ x = a[j] := fun x => by rw [List.take_succ_eq_append_getElem hj, List.mem_append, List.mem_singleton]
    by_cases m : a[j] ∈ b
    · obtain ⟨r, hr, hs⟩ := ih (j + 1) (out ++ [a[j]]) (by omega) (by simp; omega) (fun x => by
        rw [List.mem_append, List.mem_singleton, h3, ht]
        constructor
        · rintro (h | rfl)
          · exact ⟨.inl h.1, h.2⟩
          · exact ⟨.inr rfl, m⟩
        · rintro ⟨h | h, h'⟩
          · exact .inl ⟨h, h'⟩
          · exact .inr h)
      refine ⟨r, Ev.step (fun k => by rw [spec_SharedOf.l0]) ?_, hs⟩
      rw [wadd1 (j := j) (by omega), rd_nat, getD_get hj]
      refine ev_pos (by omega) (ev_pos (by omega) (Ev.bind (spec_HasNumber.ev b a[j] (by omega)) ?_))
      rw [B_true m]
      exact ev_pos rfl (ev_pos (by omega) hr)
    · obtain ⟨r, hr, hs⟩ := ih (j + 1) out (by omega) (by omega) (fun x => by
        rw [h3, ht]
        constructor
        · rintro ⟨h, h'⟩
          exact ⟨.inl h, h'⟩
        · rintro ⟨h | h, h'⟩
          · exact ⟨h, h'⟩
          · rw [h] at h'; exact absurd h' m)
      refine ⟨r, Ev.step (fun k => by rw [spec_SharedOf.l0]) ?_, hs⟩
      rw [wadd1 (j := j) (by omega), rd_nat, getD_get hj]
      refine ev_pos (by omega) (ev_pos (by omega) (Ev.bind (spec_HasNumber.ev b a[j] (by omega)) ?_))
      rw [B_false m]
      exact ev_neg (by simp) hr
theorem spec_SharedOf.ev (a b : List Int) (ha : a.length ≤ 1048576) (hb : b.length ≤ 1048576) : ∃ r, Ev (fun k => spec_SharedOf.f k a b) r ∧ r.Pairwise (· < ·) ∧ (∀ x, x ∈ r ↔ x ∈ a ∧ x ∈ b) ∧ r.length ≤ 1048576 := by
  unfold spec_SharedOf.f
  exact spec_SharedOf.l0_ev a b ha hb a.length 0 [] (by omega) (by simp) (by simp)

/-! impl_SortList -/
theorem impl_SortList.eq (l : List Int) (hl : l.length ≤ 1000000000) : ∃ r, impl_SortList.f l = some r ∧ IsSort l r ∧ r.length ≤ l.length := by
  refine ⟨_, by unfold impl_SortList.f; rw [if_pos hl], sort_compact l, ?_⟩
  have := Lib.compact_length_le (l.mergeSort fun x y => decide (x ≤ y))
  rwa [List.length_mergeSort] at this

/-! slices_Index_int_int -/
theorem slices_Index_int_int.l0_ev (l : List Int) (x : Int) (hl : l.length < 4611686018427387904) : ∀ (d j : Nat), j + d = l.length → ∃ r, Ev (fun k => slices_Index_int_int.l0 k l x (l.length : Int) (j : Int)) r ∧ (0 ≤ r ↔ x ∈ l.drop j) := by
  intro d
  induction d with
  | zero =>
    intro j h1
    refine ⟨-1, Ev.step (fun k => by rw [slices_Index_int_int.l0]) ?_, ?_⟩
    exact ev_neg (by omega) (Ev.now _)
    rw [List.drop_of_length_le (by omega)]; simp
  | succ d ih =>
    intro j h1
    have hj : j < l.length := by omega
    by_cases e : x = l[j]
    · refine ⟨j, Ev.step (fun k => by rw [slices_Index_int_int.l0]) ?_, ?_⟩
      · rw [rd_nat, getD_get hj]
        exact ev_pos (by omega) (ev_pos (by omega) (ev_pos (by omega) (ev_pos e (Ev.now _))))
      · rw [List.drop_eq_getElem_cons hj, e]; exact ⟨fun _ => List.mem_cons_self, fun _ => by omega⟩
    · obtain ⟨r, hr, h⟩ := ih (j + 1) (by omega)
      refine ⟨r, Ev.step (fun k => by rw [slices_Index_int_int.l0]) ?_, ?_⟩
      · rw [rd_nat, getD_get hj, wadd1 (by omega)]
        exact ev_pos (by omega) (ev_pos (by omega) (ev_pos (by omega) (ev_neg e hr)))
      · rw [List.drop_eq_getElem_cons hj, h, List.mem_cons]; exact ⟨.inr, fun hh => hh.resolve_left e⟩

/-! slices_Contains_int_int -/
theorem slices_Contains_int_int.ev (l : List Int) (x : Int) (hl : l.length < 4611686018427387904) : Ev (fun k => slices_Contains_int_int.f k l x) (B (x ∈ l)) := by
  obtain ⟨r, hr, h⟩ := slices_Index_int_int.l0_ev l x hl l.length 0 (by omega)
  unfold slices_Contains_int_int.f slices_Index_int_int.f
  refine Ev.bind hr ?_
  rw [B_dec, B_congr (q := x ∈ l) (by simpa using h)]
  exact Ev.now _

/-! impl_SharedOf -/
theorem impl_SharedOf.l0_ev (b s : List Int) (hs : s.length ≤ 1048576) (hb : b.length ≤ 1048576) : ∀ (d j : Nat) (out : List Int), j + d = s.length → out.length ≤ j → Ev (fun k => impl_SharedOf.l0 k b out s (s.length : Int) (j : Int)) (out ++ (s.drop j).filter (fun x => B (x ∈ b))) := by
  intro d
  induction d with
  | zero =>
    intro j out h1 h2
    refine Ev.step (fun k => by rw [impl_SharedOf.l0]) ?_
    rw [List.drop_eq_nil_of_le (by omega), List.filter_nil, List.append_nil]
    exact ev_neg (by omega) (Ev.now _)
  | succ d ih =>
    intro j out h1 h2
    have hj : j < s.length := by omega
    refine Ev.step (fun k => by rw [impl_SharedOf.l0]) ?_
    rw [wadd1 (j := j) (by omega), rd_nat, getD_get hj, List.drop_eq_getElem_cons hj, List.filter_cons]
    refine ev_pos (by omega) (ev_pos (by omega) (ev_pos (by omega) (Ev.bind (slices_Contains_int_int.ev b s[j] (by omega)) ?_)))
    by_cases m : B (s[j] ∈ b) = true
    · rw [if_pos m, show out ++ s[j] :: List.filter (fun x => B (x ∈ b)) (List.drop (j + 1) s) = (out ++ [s[j]]) ++ List.filter (fun x => B (x ∈ b)) (List.drop (j + 1) s) by simp]
      exact ev_pos m (ev_pos (by omega) (ih (j + 1) (out ++ [s[j]]) (by omega) (by simp; omega)))
    · rw [if_neg m]
      exact ev_neg m (ih (j + 1) out (by omega) (by omega))
theorem impl_SharedOf.ev (a b : List Int) (ha : a.length ≤ 1048576) (hb : b.length ≤ 1048576) : ∃ r, Ev (fun k => impl_SharedOf.f k a b) r ∧ r.Pairwise (· < ·) ∧ (∀ x, x ∈ r ↔ x ∈ a ∧ x ∈ b) := by
  obtain ⟨s, h1, h2, h3⟩ := impl_SortList.eq a (by omega)
  have := impl_SharedOf.l0_ev b s (by omega) hb s.length 0 [] (by omega) (by simp)
  rw [List.drop_zero, List.nil_append] at this
  refine ⟨s.filter (fun x => B (x ∈ b)), ?_, h2.1.filter _, fun x => ?_⟩
  · unfold impl_SharedOf.f
    rw [h1]
    exact this
  · rw [List.mem_filter, h2.2, B_iff]

end Go.Proofs.Ytbagfnppeidonaa.PFnExactSharedOf
namespace Go.Proofs.Ytbagfnppeidonaa.Pure
open Go.RowKit Go.Proofs.YtbagfnppeidonaaW.PrintWords Go.Proofs.YtbagfnppeidonaaW.PrintLast Go.Proofs.YtbagfnppeidonaaW.PrintMore Go.Proofs.YtbagfnppeidonaaM
set_option linter.unusedVariables false
set_option linter.unusedSimpArgs false
open Go.Proofs.Ytbagfnppeidonaa.PFnExactSharedOf
theorem FnExactSharedOf : laws_FnExactSharedOf.Pure := by
  intro l0 l1 hl0 hm0 hw0 hl1 hm1 hw1
  refine Ev.rounds ?_
  unfold laws_FnExactSharedOf.f
  by_cases h0 : (l0.length : Int) > 1048576
  · exact ev_pos h0 (Ev.now _)
  · refine ev_neg h0 ?_
    by_cases h1 : (l1.length : Int) > 1048576
    · exact ev_pos h1 (Ev.now _)
    · refine ev_neg h1 ?_
      have hx0 : l0.length ≤ 1048576 := by omega
      have hx1 : l1.length ≤ 1048576 := by omega
      obtain ⟨r, hr1, hs1, hm1, hlen⟩ := spec_SharedOf.ev l0 l1 hx0 hx1
      obtain ⟨r', hr2, hs2, hm2⟩ := impl_SharedOf.ev l0 l1 hx0 hx1
      obtain rfl : r = r' := asc_ext hs1 hs2 (fun x => (hm1 x).trans (hm2 x).symm)
      refine Ev.bind (laws_toIntS.ev l0 hx0) ?_
      refine Ev.bind (laws_toIntS.ev l1 hx1) ?_
      refine Ev.bind hr1 ?_
      refine Ev.bind (laws_toIntS.ev l0 hx0) ?_
      refine Ev.bind (laws_toIntS.ev l1 hx1) ?_
      refine Ev.bind hr2 ?_
      refine Ev.bind (laws_eqIntS.ev _ _ (by omega)) ?_
      rw [B_true rfl]
      refine ev_pos rfl ?_
      refine Ev.bind (laws_toIntS.ev l0 hx0) ?_
      refine Ev.bind (laws_eqIntS.ev _ _ (by omega)) ?_
      rw [B_true rfl]
      refine ev_pos rfl ?_
      refine Ev.bind (laws_toIntS.ev l1 hx1) ?_
      refine Ev.bind (laws_eqIntS.ev _ _ (by omega)) ?_
      rw [B_true rfl]
      refine ev_pos rfl ?_
      refine Ev.bind (laws_markIntS.ev l0 (by omega) 1 (by omega) (by omega)) ?_
      refine Ev.bind (laws_markIntS.ev l1 (by omega) _ (by simp only []; omega) (by simp only []; omega)) ?_
      refine ev_neg (by simp only []; omega) ?_
      refine Ev.bind (laws_eqIntS.ev _ _ (by omega)) ?_
      rw [B_true rfl]
      refine Ev.step (fun k => by rw [laws_FnExactSharedOf.j0]) ?_
      refine ev_neg (by simp) ?_
      refine Ev.bind (laws_markIntS.ev _ (by omega) 1 (by omega) (by omega)) ?_
      refine Ev.bind (laws_heldIntS.ev _ (by omega) 1 (by omega) (by omega)) ?_
      refine ev_neg (by omega) (ev_pos rfl ?_)
      refine Ev.bind (laws_toIntS.ev l0 hx0) ?_
      refine Ev.bind (laws_toIntS.ev l1 hx1) ?_
      refine Ev.bind hr2 ?_
      refine Ev.bind (laws_eqIntS.ev _ _ (by omega)) ?_
      rw [B_true rfl]
      refine ev_pos rfl ?_
      refine Ev.bind (laws_heldIntS.ev _ (by omega) 1 (by omega) (by omega)) ?_
      exact ev_neg (by omega) (ev_pos rfl (Ev.now _))

end Go.Proofs.Ytbagfnppeidonaa.Pure
