/- The program's SortList answers what the reference's answers, for every list of numbers, in memory of its own (lists of more than 1048576 numbers are let pass by the law itself). No further condition. -/
import Derived.Test.YtbagfnppeidonaaPFnExactSortListx1
import Derived.Test.YtbagfnppeidonaaPFnExactSortListx2
import Derived.Test.YtbagfnppeidonaaPFnExactSortListx3
import Derived.Test.YtbagfnppeidonaaPFnExactSortListx4
import Derived.Test.YtbagfnppeidonaaPFnExactSortListx5
import Derived.Test.YtbagfnppeidonaaPFnExactSortListx6
import Derived.Test.YtbagfnppeidonaaPFnExactSortListx7
import Derived.Test.YtbagfnppeidonaaPFnExactSortListx8
import Derived.Test.YtbagfnppeidonaaM0
import Derived.Test.YtbagfnppeidonaaM1
import Derived.Test.YtbagfnppeidonaaM2
import Derived.Test.YtbagfnppeidonaaM3
import Derived.Test.YtbagfnppeidonaaMQ
import Derived.Test.YtbagfnppeidonaaM4
namespace Go.Proofs.Ytbagfnppeidonaa.PFnExactSortList
open Go.RowKit Go.Proofs.YtbagfnppeidonaaW.PrintWords Go.Proofs.YtbagfnppeidonaaW.PrintLast Go.Proofs.YtbagfnppeidonaaW.PrintMore Go.Proofs.YtbagfnppeidonaaM
set_option linter.unusedVariables false
set_option linter.unusedSimpArgs false
/-! spec_SortList -/
theorem spec_SortList.l0_ev (l : List Int) (hl : l.length ≤ 1000000000) : ∀ (d j : Nat) (s : List Int), j + d = l.length → s.length ≤ j → IsSort (l.take j) s → ∃ r, Ev (fun k => spec_SortList.l0 k l s (j : Int)) r ∧ IsSort l r ∧ r.length ≤ l.length := by
  intro d
  induction d with
  | zero =>
    intro j s h1 h2 h3
    rw [List.take_of_length_le (by omega)] at h3
    refine ⟨s, Ev.step (fun k => by rw [spec_SortList.l0]) ?_, h3, by omega⟩
    exact ev_neg (by omega) (Ev.now _)
  | succ d ih =>
    intro j s h1 h2 h3
    have hj : j < l.length := by omega
    have same : Box (l[j] ∈ s → ∃ r, Ev (fun k => spec_SortList.l0 k l s (wrap64 ((j : Int) + 1))) r ∧ IsSort l r ∧ r.length ≤ l.length) := Box.mk <| by
      intro hm
      rw [wadd1 (by omega)]
      refine ih (j + 1) s (by omega) (by omega) ⟨h3.1, fun x => ?_⟩
      rw [List.take_succ_eq_append_getElem hj, List.mem_append, List.mem_singleton, ← h3.2]
      constructor
      · intro h; exact .inl h
      · rintro (h | h)
        · exact h
        · rw [h]; exact hm
    have inner : ∀ (b : Nat), b ≤ s.length → (∀ i, b ≤ i → i < s.length → l[j] < s.getD i 0) → ∃ r, Ev (fun k => spec_SortList.l1 k l s (j : Int) (b : Int)) r ∧ IsSort l r ∧ r.length ≤ l.length := by
      have put : ∀ b : Nat, b ≤ s.length → (0 < b → s.getD (b - 1) 0 < l[j]) → (∀ i, b ≤ i → i < s.length → l[j] < s.getD i 0) → ∃ r, Ev (fun k => spec_SortList.l0 k l (s.take b ++ [l[j]] ++ ([] ++ s.drop b)) (wrap64 ((j : Int) + 1))) r ∧ IsSort l r ∧ r.length ≤ l.length := by
        intro b hb hlo hhi
        obtain ⟨p1, p2⟩ := insert_sorted h3.1 b hb l[j] hlo hhi
        rw [wadd1 (by omega), List.nil_append]
        refine ih (j + 1) _ (by omega) (by simp; omega) ⟨p1, fun x => ?_⟩
        rw [p2, List.take_succ_eq_append_getElem hj, List.mem_append, List.mem_singleton, h3.2]
      intro b
      induction b with
      | zero =>
        intro hb hhi
        obtain ⟨r, hr, hs, hl'⟩ := put 0 (by omega) (fun h => by omega) hhi
        refine ⟨r, Ev.step (fun k => by rw [spec_SortList.l1]) ?_, hs, hl'⟩
        simp only [Option.bind_some, rd_nat, getD_get hj]
        exact ev_neg (by omega) (ev_pos (by omega) (ev_pos (by omega) (ev_pos (by simp; omega) (ev_pos (by omega) (ev_pos (by omega) (ev_pos (by simp) (ev_pos (by simp; omega) hr)))))))
      | succ b ihb =>
        intro hb hhi
        have e1 : wrap64 (((b + 1 : Nat) : Int) - 1) = (b : Int) := by rw [w64 (by omega) (by omega)]; omega
        by_cases c1 : s.getD b 0 > l[j]
        · obtain ⟨r, hr, hs, hl'⟩ := ihb (by omega) (fun i i1 i2 => by
            by_cases e : i = b
            · subst e; omega
            · exact hhi i (by omega) i2)
          refine ⟨r, Ev.step (fun k => by rw [spec_SortList.l1]) ?_, hs, hl'⟩
          rw [e1, rd_nat, rd_nat, getD_get hj]
          exact ev_pos (by omega) (ev_pos (by omega) (ev_pos (by omega) (ev_pos (by omega) (ev_pos (by omega) (ev_pos c1 hr)))))
        · by_cases c2 : s.getD b 0 = l[j]
          · obtain ⟨r, hr, hs, hl'⟩ := same.out (by rw [← c2]; exact getD_mem (by omega))
            refine ⟨r, Ev.step (fun k => by rw [spec_SortList.l1]) ?_, hs, hl'⟩
            rw [e1, rd_nat, rd_nat, getD_get hj]
            exact ev_pos (by omega) (ev_pos (by omega) (ev_pos (by omega) (ev_pos (by omega) (ev_pos (by omega) (ev_neg c1 (ev_pos c2 hr))))))
          · obtain ⟨r, hr, hs, hl'⟩ := put (b + 1) (by omega) (fun _ => by rw [Nat.add_sub_cancel]; omega) hhi
            refine ⟨r, Ev.step (fun k => by rw [spec_SortList.l1]) ?_, hs, hl'⟩
            simp only [Option.bind_some]
            rw [e1, rd_nat, rd_nat, getD_get hj, Int.toNat_natCast]
            exact ev_pos (by omega) (ev_pos (by omega) (ev_pos (by omega) (ev_pos (by omega) (ev_pos (by omega) (ev_neg c1 (ev_neg c2 (ev_pos (by omega) (ev_pos (by omega) (ev_pos (by simp; omega) (ev_pos (by simp; omega) (ev_pos (by simp; omega) hr)))))))))))
    obtain ⟨r, hr, hs, hl'⟩ := inner s.length (by omega) (fun i i1 i2 => by omega)
    refine ⟨r, Ev.step (fun k => by rw [spec_SortList.l0]) ?_, hs, hl'⟩
    exact ev_pos (by omega) hr
theorem spec_SortList.ev (l : List Int) (hl : l.length ≤ 1000000000) : ∃ r, Ev (fun k => spec_SortList.f k l) r ∧ IsSort l r ∧ r.length ≤ l.length := by
  unfold spec_SortList.f
  exact spec_SortList.l0_ev l hl l.length 0 [] (by omega) (by simp) ⟨.nil, by simp⟩

/-! laws_toIntS -/
theorem laws_toIntS.l0_ev (xs : List Int) (hx : xs.length ≤ 1048576) : ∀ (d j : Nat) (acc : List Int), j + d = xs.length → acc.length = xs.length → acc.take j = xs.take j → Ev (fun k => laws_toIntS.l0 k xs acc (j : Int)) xs := by
  intro d
  induction d with
  | zero =>
    intro j acc h1 h2 h3
    have e : acc = xs := by rw [← List.take_of_length_le (l := acc) (i := j) (by omega), h3, List.take_of_length_le (by omega)]
    subst e
    refine Ev.step (fun k => by rw [laws_toIntS.l0]) ?_
    refine ev_neg (by omega) (Ev.now _)
  | succ d ih =>
    intro j acc h1 h2 h3
    refine Ev.step (fun k => by rw [laws_toIntS.l0]) ?_
    refine ev_pos (by omega) (ev_pos (by omega) (ev_pos (by omega) ?_))
    rw [wadd1 (by omega)]
    refine ih (j + 1) _ (by omega) (by simp; omega) ?_
    rw [Int.toNat_natCast, rd_nat]
    exact set_take acc xs j _ (by omega) (by omega) h3 (getD_get (by omega)).symm
theorem laws_toIntS.ev (xs : List Int) (hx : xs.length ≤ 1048576) : Ev (fun k => laws_toIntS.f k xs) xs := by
  unfold laws_toIntS.f
  refine ev_pos (by omega) (ev_pos (by omega) ?_)
  rw [Int.toNat_natCast]
  exact laws_toIntS.l0_ev xs hx xs.length 0 _ (by omega) (by simp) (by simp)

/-! impl_SortList -/
theorem impl_SortList.eq (l : List Int) (hl : l.length ≤ 1000000000) : ∃ r, impl_SortList.f l = some r ∧ IsSort l r ∧ r.length ≤ l.length := by
  refine ⟨_, by unfold impl_SortList.f; rw [if_pos hl], sort_compact l, ?_⟩
  have := Lib.compact_length_le (l.mergeSort fun x y => decide (x ≤ y))
  rwa [List.length_mergeSort] at this

/-! laws_eqIntS -/
theorem laws_eqIntS.l0_ev (x y : List Int) (hl : x.length = y.length) (hx : x.length < 4611686018427387904) : ∀ (d j : Nat), j + d = x.length → Ev (fun k => laws_eqIntS.l0 k x y (j : Int)) (B (x.drop j = y.drop j)) := by
  intro d
  induction d with
  | zero =>
    intro j h1
    refine Ev.step (fun k => by rw [laws_eqIntS.l0]) ?_
    rw [B_true (by rw [List.drop_of_length_le (by omega), List.drop_of_length_le (by omega)])]
    exact ev_neg (by omega) (Ev.now _)
  | succ d ih =>
    intro j h1
    have hj : j < x.length := by omega
    have hj' : j < y.length := by omega
    refine Ev.step (fun k => by rw [laws_eqIntS.l0]) ?_
    refine ev_pos (by omega) (ev_pos (by omega) (ev_pos (by omega) ?_))
    rw [wadd1 (by omega), rd_nat, rd_nat, getD_get hj, getD_get hj', List.drop_eq_getElem_cons hj, List.drop_eq_getElem_cons hj']
    by_cases e : x[j] = y[j]
    · refine ev_pos e ?_
      have := ih (j + 1) (by omega)
      rw [B_congr (q := x.drop (j + 1) = y.drop (j + 1)) (by simp only [e, List.cons.injEq, true_and])]
      exact this
    · refine ev_neg e ?_
      rw [B_false (fun h => e (List.cons.inj h).1)]
      exact Ev.now _
theorem laws_eqIntS.ev (x y : List Int) (hx : x.length < 4611686018427387904) : Ev (fun k => laws_eqIntS.f k x y) (B (x = y)) := by
  unfold laws_eqIntS.f
  by_cases e : x.length = y.length
  · refine ev_pos (by omega) ?_
    exact laws_eqIntS.l0_ev x y e hx x.length 0 (by omega)
  · refine ev_neg (by omega) ?_
    rw [B_false (fun h => e (by rw [h]))]
    exact Ev.now _

/-! laws_markIntS -/
theorem laws_markIntS.l0_ev (m : Int) (hm : 0 ≤ m) (hm' : m ≤ 1000000000) : ∀ (d j : Nat) (x : List Int), j + d = x.length → x.length < 1000000000000 → x.take j = marksI j m → Ev (fun k => laws_markIntS.l0 k x (m + j) (j : Int)) (m + x.length, marksI x.length m) := by
  intro d
  induction d with
  | zero =>
    intro j x h1 h2 h3
    refine Ev.step (fun k => by rw [laws_markIntS.l0]) ?_
    rw [List.take_of_length_le (by omega)] at h3
    have e : j = x.length := by omega
    subst e
    rw [← h3]
    exact ev_neg (by omega) (Ev.now _)
  | succ d ih =>
    intro j x h1 h2 h3
    refine Ev.step (fun k => by rw [laws_markIntS.l0]) ?_
    have e : Box (wrap64 (m + (j : Int) + 1) = m + ((j + 1 : Nat) : Int)) := ⟨by rw [w64 (by omega) (by omega)]; omega⟩
    rw [wadd1 (by omega), e.out, Int.toNat_natCast]
    refine ev_pos (by omega) (ev_pos (by omega) ?_)
    have := ih (j + 1) (x.set j (m + j)) (by simp; omega) (by simp; omega) (by
      rw [marksI_snoc, ← h3, List.take_succ_eq_append_getElem (by simp; omega), List.take_set_of_le (by omega)]
      simp)
    simpa using this
theorem laws_markIntS.ev (x : List Int) (hx : x.length < 1000000000000) (m : Int) (hm : 0 ≤ m) (hm' : m ≤ 1000000000) : Ev (fun k => laws_markIntS.f k x m) (m + x.length, marksI x.length m) := by
  unfold laws_markIntS.f
  have := laws_markIntS.l0_ev m hm hm' x.length 0 x (by omega) hx (by simp [marksI])
  simpa using this

/-! laws_heldIntS -/
theorem laws_heldIntS.l0_ev (m : Int) (hm : 0 ≤ m) (hm' : m ≤ 1000000000) (n : Nat) (hn : n < 1000000000000) : ∀ (d j : Nat), j + d = n → Ev (fun k => laws_heldIntS.l0 k (marksI n m) (m + j) (j : Int)) (m + n) := by
  intro d
  induction d with
  | zero =>
    intro j h1
    refine Ev.step (fun k => by rw [laws_heldIntS.l0]) ?_
    have e : j = n := by omega
    subst e
    exact ev_neg (by rw [marksI_length]; omega) (Ev.now _)
  | succ d ih =>
    intro j h1
    refine Ev.step (fun k => by rw [laws_heldIntS.l0]) ?_
    have e : Box (wrap64 (m + (j : Int) + 1) = m + ((j + 1 : Nat) : Int)) := ⟨by rw [w64 (by omega) (by omega)]; omega⟩
    rw [wadd1 (by omega), e.out, rd_nat, marksI_get n m j (by omega)]
    exact ev_pos (by rw [marksI_length]; omega) (ev_pos (by omega) (ev_pos rfl (ih (j + 1) (by omega))))
theorem laws_heldIntS.ev (n : Nat) (hn : n < 1000000000000) (m : Int) (hm : 0 ≤ m) (hm' : m ≤ 1000000000) : Ev (fun k => laws_heldIntS.f k (marksI n m) m) (m + n) := by
  unfold laws_heldIntS.f
  have := laws_heldIntS.l0_ev m hm hm' n hn n 0 (by omega)
  simpa using this

end Go.Proofs.Ytbagfnppeidonaa.PFnExactSortList
namespace Go.Proofs.Ytbagfnppeidonaa.Pure
open Go.RowKit Go.Proofs.YtbagfnppeidonaaW.PrintWords Go.Proofs.YtbagfnppeidonaaW.PrintLast Go.Proofs.YtbagfnppeidonaaW.PrintMore Go.Proofs.YtbagfnppeidonaaM
set_option linter.unusedVariables false
set_option linter.unusedSimpArgs false
open Go.Proofs.Ytbagfnppeidonaa.PFnExactSortList
theorem FnExactSortList : laws_FnExactSortList.Pure := by
  intro l0 hl0 hm0 hw0
  refine Ev.rounds ?_
  unfold laws_FnExactSortList.f
  by_cases h0 : (l0.length : Int) > 1048576
  · exact ev_pos h0 (Ev.now _)
  · refine ev_neg h0 ?_
    have hx0 : l0.length ≤ 1048576 := by omega
    obtain ⟨r, hr1, hs1, hl1⟩ := spec_SortList.ev l0 (by omega)
    obtain ⟨r', hr2, hs2, hl2⟩ := impl_SortList.eq l0 (by omega)
    obtain rfl := hs1.unique hs2
    refine Ev.bind (laws_toIntS.ev l0 hx0) ?_
    refine Ev.bind hr1 ?_
    refine Ev.bind (laws_toIntS.ev l0 hx0) ?_
    rw [hr2]
    simp only [Option.bind_some]
    refine Ev.bind (laws_eqIntS.ev _ _ (by omega)) ?_
    rw [B_true rfl]
    refine ev_pos rfl ?_
    refine Ev.bind (laws_toIntS.ev l0 hx0) ?_
    refine Ev.bind (laws_eqIntS.ev _ _ (by omega)) ?_
    rw [B_true rfl]
    refine ev_pos rfl ?_
    refine Ev.bind (laws_markIntS.ev l0 (by omega) 1 (by omega) (by omega)) ?_
    refine ev_neg (by simp only []; omega) ?_
    refine Ev.bind (laws_eqIntS.ev _ _ (by omega)) ?_
    rw [B_true rfl]
    refine Ev.step (fun k => by rw [laws_FnExactSortList.j0]) ?_
    refine ev_neg (by simp) ?_
    refine Ev.bind (laws_markIntS.ev _ (by omega) 1 (by omega) (by omega)) ?_
    refine Ev.bind (laws_heldIntS.ev _ (by omega) 1 (by omega) (by omega)) ?_
    refine ev_neg (by omega) (ev_pos rfl ?_)
    refine Ev.bind (laws_toIntS.ev l0 hx0) ?_
    rw [hr2]
    simp only [Option.bind_some]
    refine Ev.bind (laws_eqIntS.ev _ _ (by omega)) ?_
    rw [B_true rfl]
    refine ev_pos rfl ?_
    refine Ev.bind (laws_heldIntS.ev _ (by omega) 1 (by omega) (by omega)) ?_
    exact ev_neg (by omega) (ev_pos rfl (Ev.now _))

end Go.Proofs.Ytbagfnppeidonaa.Pure
