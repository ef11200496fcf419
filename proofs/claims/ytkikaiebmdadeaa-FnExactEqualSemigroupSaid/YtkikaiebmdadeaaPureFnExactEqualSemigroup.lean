/- The program's EqualSemigroup answers what the reference's answers, for every pair of semigroup values (values of together more than 1048576 numbers are let pass by the law itself). No further condition. -/
import Derived.Test.YtkikaiebmdadeaaPFnExactEqualSemigroupx1
import Derived.Test.YtkikaiebmdadeaaPFnExactEqualSemigroupx2
import Derived.Test.YtkikaiebmdadeaaM0
namespace Go.Proofs.Ytkikaiebmdadeaa.PFnExactEqualSemigroup
open Go.RowKit Go.Proofs.YtkikaiebmdadeaaW.PrintWords Go.Proofs.YtkikaiebmdadeaaW.PrintLast Go.Proofs.YtkikaiebmdadeaaW.PrintMore Go.Proofs.YtkikaiebmdadeaaM
set_option linter.unusedVariables false
set_option linter.unusedSimpArgs false
/-! laws_szIntS -/
theorem laws_szIntS.eq (l : List Int) (a : Int) (ha : 0 ≤ a ∧ a ≤ 1048576) (hl : l.length ≤ maxLen) : laws_szIntS.f l a = some (if a - (l.length : Int) < 0 then -1 else a - (l.length : Int)) := by
  unfold maxLen at hl
  unfold laws_szIntS.f
  rw [w64 (by omega) (by omega)]
  split <;> rfl

/-! laws_szSemigroup -/
theorem laws_szSemigroup.eq (l : List Int) (a : Int) (ha : 0 ≤ a ∧ a ≤ 1048576) (hl : l.length ≤ maxLen) : laws_szSemigroup.f l a = some (if a - (l.length : Int) < 0 then -1 else a - (l.length : Int)) := by
  unfold laws_szSemigroup.f
  rw [laws_szIntS.eq l a ha hl]
  simp only [Option.bind_some]
  split
  · rfl
  · rfl

/-! spec_l2Same -/
theorem spec_l2Same.l0_ev (x y : List Int) (hl : x.length = y.length) (hx : x.length < 4611686018427387904) : ∀ (d j : Nat), j + d = x.length → Ev (fun k => spec_l2Same.l0 k x y (j : Int)) (B (x.drop j = y.drop j)) := by
  intro d
  induction d with
  | zero =>
    intro j h1
    refine Ev.step (fun k => by rw [spec_l2Same.l0]) ?_
    rw [B_true (by rw [List.drop_of_length_le (by omega), List.drop_of_length_le (by omega)])]
    exact ev_neg (by omega) (Ev.now _)
  | succ d ih =>
    intro j h1
    have hj : j < x.length := by omega
    have hj' : j < y.length := by omega
    refine Ev.step (fun k => by rw [spec_l2Same.l0]) ?_
    refine ev_pos (by omega) (ev_pos (by omega) (ev_pos (by omega) ?_))
    rw [wadd1 (by omega), rd_nat, rd_nat, getD_get hj, getD_get hj', List.drop_eq_getElem_cons hj, List.drop_eq_getElem_cons hj']
    by_cases e : x[j] = y[j]
    · refine ev_pos e ?_
      have := ih (j + 1) (by omega)
      rw [B_congr (q := x.drop (j + 1) = y.drop (j + 1)) (by simp only [e, List.cons.injEq, true_and])]
      exact this
    · refine ev_neg e ?_
      rw [B_false (fun h => e (List.cons.inj h).1)]
      exact Ev.now _
theorem spec_l2Same.ev (x y : List Int) (hx : x.length < 4611686018427387904) : Ev (fun k => spec_l2Same.f k x y) (B (x = y)) := by
  unfold spec_l2Same.f
  by_cases e : x.length = y.length
  · refine ev_pos (by omega) ?_
    exact spec_l2Same.l0_ev x y e hx x.length 0 (by omega)
  · refine ev_neg (by omega) ?_
    rw [B_false (fun h => e (by rw [h]))]
    exact Ev.now _

/-! spec_EqualSemigroup -/
theorem spec_EqualSemigroup.ev (x y : List Int) (hx : x.length < 4611686018427387904) : Ev (fun k => spec_EqualSemigroup.f k x y) (B (x = y)) := by
  unfold spec_EqualSemigroup.f
  exact Ev.bind (spec_l2Same.ev x y hx) (Ev.now _)

/-! laws_toIntS -/
theorem laws_toIntS.l0_ev (xs : List Int) (hx : xs.length ≤ 1048576) : ∀ (d j : Nat) (acc : List Int), j + d = xs.length → acc.length = xs.length → acc.take j = xs.take j → Ev (fun k => laws_toIntS.l0 k xs acc (j : Int)) xs := by
  intro d
  induction d with
  | zero =>
    intro j acc h1 h2 h3
    have e : acc = xs := by rw [← List.take_of_length_le (l := acc) (i := j) (by omega), h3, List.take_of_length_le (by omega)]
    subst e
    refine Ev.step (fun k => by rw [laws_toIntS.l0]) ?_
    refine ev_neg (by omega) (Ev.now _)
  | succ d ih =>
    intro j acc h1 h2 h3
    refine Ev.step (fun k => by rw [laws_toIntS.l0]) ?_
    refine ev_pos (by omega) (ev_pos (by omega) (ev_pos (by omega) ?_))
    rw [wadd1 (by omega)]
    refine ih (j + 1) _ (by omega) (by simp; omega) ?_
    rw [Int.toNat_natCast, rd_nat]
    exact set_take acc xs j _ (by omega) (by omega) h3 (getD_get (by omega)).symm
theorem laws_toIntS.ev (xs : List Int) (hx : xs.length ≤ 1048576) : Ev (fun k => laws_toIntS.f k xs) xs := by
  unfold laws_toIntS.f
  refine ev_pos (by omega) (ev_pos (by omega) ?_)
  rw [Int.toNat_natCast]
  exact laws_toIntS.l0_ev xs hx xs.length 0 _ (by omega) (by simp) (by simp)

/-! laws_toSemigroup -/
theorem laws_toSemigroup.ev (l : List Int) (hl : l.length ≤ 1048576) : Ev (fun k => laws_toSemigroup.f k l) l := by
  unfold laws_toSemigroup.f
  exact Ev.bind (laws_toIntS.ev l hl) (Ev.now _)

/-! slices_Equal_int_int -/
theorem slices_Equal_int_int.l0_ev (x y : List Int) (hl : x.length = y.length) (hx : x.length < 4611686018427387904) : ∀ (d j : Nat), j + d = x.length → Ev (fun k => slices_Equal_int_int.l0 k x y (x.length : Int) (j : Int)) (B (x.drop j = y.drop j)) := by
  intro d
  induction d with
  | zero =>
    intro j h1
    refine Ev.step (fun k => by rw [slices_Equal_int_int.l0]) ?_
    rw [B_true (by rw [List.drop_of_length_le (by omega), List.drop_of_length_le (by omega)])]
    exact ev_neg (by omega) (Ev.now _)
  | succ d ih =>
    intro j h1
    have hj : j < x.length := by omega
    have hj' : j < y.length := by omega
    refine Ev.step (fun k => by rw [slices_Equal_int_int.l0]) ?_
    refine ev_pos (by omega) (ev_pos (by omega) (ev_pos (by omega) (ev_pos (by omega) ?_)))
    rw [wadd1 (by omega), rd_nat, rd_nat, getD_get hj, getD_get hj', List.drop_eq_getElem_cons hj, List.drop_eq_getElem_cons hj']
    by_cases e : x[j] = y[j]
    · refine ev_pos e ?_
      have := ih (j + 1) (by omega)
      rw [B_congr (q := x.drop (j + 1) = y.drop (j + 1)) (by simp only [e, List.cons.injEq, true_and])]
      exact this
    · refine ev_neg e ?_
      rw [B_false (fun h => e (List.cons.inj h).1)]
      exact Ev.now _
theorem slices_Equal_int_int.ev (x y : List Int) (hx : x.length < 4611686018427387904) : Ev (fun k => slices_Equal_int_int.f k x y) (B (x = y)) := by
  unfold slices_Equal_int_int.f
  by_cases e : x.length = y.length
  · refine ev_pos (by omega) ?_
    exact slices_Equal_int_int.l0_ev x y e hx x.length 0 (by omega)
  · refine ev_neg (by omega) ?_
    rw [B_false (fun h => e (by rw [h]))]
    exact Ev.now _

/-! impl_EqualSemigroup -/
theorem impl_EqualSemigroup.ev (x y : List Int) (hx : x.length < 4611686018427387904) : Ev (fun k => impl_EqualSemigroup.f k x y) (B (x = y)) := by
  unfold impl_EqualSemigroup.f
  exact Ev.bind (slices_Equal_int_int.ev x y hx) (Ev.now _)

/-! laws_eqIntS -/
theorem laws_eqIntS.l0_ev (x y : List Int) (hl : x.length = y.length) (hx : x.length < 4611686018427387904) : ∀ (d j : Nat), j + d = x.length → Ev (fun k => laws_eqIntS.l0 k x y (j : Int)) (B (x.drop j = y.drop j)) := by
  intro d
  induction d with
  | zero =>
    intro j h1
    refine Ev.step (fun k => by rw [laws_eqIntS.l0]) ?_
    rw [B_true (by rw [List.drop_of_length_le (by omega), List.drop_of_length_le (by omega)])]
    exact ev_neg (by omega) (Ev.now _)
  | succ d ih =>
    intro j h1
    have hj : j < x.length := by omega
    have hj' : j < y.length := by omega
    refine Ev.step (fun k => by rw [laws_eqIntS.l0]) ?_
    refine ev_pos (by omega) (ev_pos (by omega) (ev_pos (by omega) ?_))
    rw [wadd1 (by omega), rd_nat, rd_nat, getD_get hj, getD_get hj', List.drop_eq_getElem_cons hj, List.drop_eq_getElem_cons hj']
    by_cases e : x[j] = y[j]
    · refine ev_pos e ?_
      have := ih (j + 1) (by omega)
      rw [B_congr (q := x.drop (j + 1) = y.drop (j + 1)) (by simp only [e, List.cons.injEq, true_and])]
      exact this
    · refine ev_neg e ?_
      rw [B_false (fun h => e (List.cons.inj h).1)]
      exact Ev.now _
theorem laws_eqIntS.ev (x y : List Int) (hx : x.length < 4611686018427387904) : Ev (fun k => laws_eqIntS.f k x y) (B (x = y)) := by
  unfold laws_eqIntS.f
  by_cases e : x.length = y.length
  · refine ev_pos (by omega) ?_
    exact laws_eqIntS.l0_ev x y e hx x.length 0 (by omega)
  · refine ev_neg (by omega) ?_
    rw [B_false (fun h => e (by rw [h]))]
    exact Ev.now _

/-! laws_eqSemigroup -/
theorem laws_eqSemigroup.ev (x y : List Int) (hx : x.length < 4611686018427387904) : Ev (fun k => laws_eqSemigroup.f k x y) (B (x = y)) := by
  unfold laws_eqSemigroup.f
  refine Ev.bind (laws_eqIntS.ev x y hx) ?_
  cases B (x = y) with
  | true => exact ev_pos rfl (Ev.now _)
  | false => exact ev_neg (by simp) (Ev.now _)

end Go.Proofs.Ytkikaiebmdadeaa.PFnExactEqualSemigroup
namespace Go.Proofs.Ytkikaiebmdadeaa.Pure
open Go.RowKit Go.Proofs.YtkikaiebmdadeaaW.PrintWords Go.Proofs.YtkikaiebmdadeaaW.PrintLast Go.Proofs.YtkikaiebmdadeaaW.PrintMore Go.Proofs.YtkikaiebmdadeaaM
set_option linter.unusedVariables false
set_option linter.unusedSimpArgs false
open Go.Proofs.Ytkikaiebmdadeaa.PFnExactEqualSemigroup
theorem FnExactEqualSemigroup : laws_FnExactEqualSemigroup.Pure := by
  intro l0 l1 hl hw hl1 hw1
  refine Ev.rounds ?_
  unfold laws_FnExactEqualSemigroup.f
  rw [laws_szSemigroup.eq l0 1048576 (by omega) hl]
  simp only [Option.bind_some]
  by_cases h : 1048576 - (l0.length : Int) < 0
  · rw [if_pos h]
    exact ev_pos (by omega) (Ev.now _)
  · rw [if_neg h]
    refine ev_neg h ?_
    rw [laws_szSemigroup.eq l1 _ (by omega) hl1]
    simp only [Option.bind_some]
    by_cases h2 : 1048576 - (l0.length : Int) - (l1.length : Int) < 0
    · rw [if_pos h2]
      exact ev_pos (by omega) (Ev.now _)
    · rw [if_neg h2]
      refine ev_neg h2 ?_
      have hx : l0.length ≤ 1048576 := by omega
      have hx1 : l1.length ≤ 1048576 := by omega
      refine Ev.bind (laws_toSemigroup.ev l0 hx) ?_
      refine Ev.bind (laws_toSemigroup.ev l1 hx1) ?_
      refine Ev.bind (spec_EqualSemigroup.ev l0 l1 (by omega)) ?_
      refine Ev.bind (laws_toSemigroup.ev l0 hx) ?_
      refine Ev.bind (laws_toSemigroup.ev l1 hx1) ?_
      refine Ev.bind (impl_EqualSemigroup.ev l0 l1 (by omega)) ?_
      refine ev_neg (by simp) ?_
      refine Ev.bind (laws_toSemigroup.ev l0 hx) ?_
      refine Ev.bind (laws_eqSemigroup.ev l0 l0 (by omega)) ?_
      rw [B_true rfl]
      refine ev_pos rfl ?_
      refine Ev.bind (laws_toSemigroup.ev l1 hx1) ?_
      refine Ev.bind (laws_eqSemigroup.ev l1 l1 (by omega)) ?_
      rw [B_true rfl]
      exact ev_pos rfl (Ev.now _)

end Go.Proofs.Ytkikaiebmdadeaa.Pure
