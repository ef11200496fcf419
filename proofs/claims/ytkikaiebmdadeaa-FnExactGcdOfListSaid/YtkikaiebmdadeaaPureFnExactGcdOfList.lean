/- The program's GcdOfList answers what the reference's answers, for every list (lists of more than 1048576 numbers are let pass by the law itself). No further condition. -/
import Derived.Test.YtkikaiebmdadeaaPFnExactGcdOfListx1
import Derived.Test.YtkikaiebmdadeaaPFnExactGcdOfListx2
import Derived.Test.YtkikaiebmdadeaaM0
namespace Go.Proofs.Ytkikaiebmdadeaa.PFnExactGcdOfList
open Go.RowKit Go.Proofs.YtkikaiebmdadeaaW.PrintWords Go.Proofs.YtkikaiebmdadeaaW.PrintLast Go.Proofs.YtkikaiebmdadeaaW.PrintMore Go.Proofs.YtkikaiebmdadeaaM
set_option linter.unusedVariables false
set_option linter.unusedSimpArgs false
/-! spec_l1Max -/
theorem spec_l1Max.eq (a b : Int) : spec_l1Max.f a b = some (mx a b) := by
  unfold spec_l1Max.f mx
  split <;> split <;> first | rfl | (congr 1; omega)

/-! spec_l1In -/
theorem spec_l1In.eq (a b c : Int) : spec_l1In.f a b c = some (decide (b ≤ a ∧ a ≤ c)) := by
  unfold spec_l1In.f
  by_cases h : b ≤ a <;> simp [h]

/-! spec_l2Small -/
theorem spec_l2Small.eq (a : Int) : spec_l2Small.f a = some (decide (-1000000 ≤ a ∧ a ≤ 1000000)) := by
  unfold spec_l2Small.f
  rw [spec_l1In.eq]; rfl

/-! spec_GcdOf -/
theorem spec_GcdOf.l0_ev : ∀ (n m : Nat), Ev (fun k => spec_GcdOf.l0 k (m : Int) (n : Int)) ((Nat.gcd m n : Nat) : Int) := by
  intro n
  induction n using Nat.strongRecOn with
  | _ n ih =>
    intro m
    refine Ev.step (fun k => by rw [spec_GcdOf.l0]) ?_
    by_cases e : n = 0
    · subst e
      rw [Nat.gcd_zero_right]
      exact ev_neg (by omega) (Ev.now _)
    · refine ev_pos (by omega) (ev_neg (by omega) ?_)
      rw [← Int.ofNat_tmod, Nat.gcd_comm m n, Nat.gcd_rec n m, Nat.gcd_comm]
      exact ih (m % n) (Nat.mod_lt _ (by omega)) n
theorem spec_GcdOf.ev (a b : Int) : Ev (fun k => spec_GcdOf.f k a b) (gcdV a b) := by
  unfold spec_GcdOf.f
  simp only [spec_l2Small.eq, Option.bind_some]
  by_cases ha : -1000000 ≤ a ∧ a ≤ 1000000
  · by_cases hb : -1000000 ≤ b ∧ b ≤ 1000000
    · rw [decide_eq_true ha, decide_eq_true hb]
      refine ev_pos rfl ?_
      refine Ev.step (fun k => by rw [spec_GcdOf.j0]) ?_
      simp only [spec_l1Max.eq, Option.bind_some, mx_abs ha.1 ha.2, mx_abs hb.1 hb.2]
      refine ev_neg (by simp) ?_
      rw [gcdV, if_pos ⟨ha, hb⟩]
      exact spec_GcdOf.l0_ev _ _
    · rw [decide_eq_true ha, decide_eq_false hb]
      refine ev_pos rfl ?_
      refine Ev.step (fun k => by rw [spec_GcdOf.j0]) ?_
      rw [gcdV, if_neg (fun h => hb h.2)]
      exact ev_pos rfl (Ev.now _)
  · rw [decide_eq_false ha]
    refine ev_neg (by simp) ?_
    refine Ev.step (fun k => by rw [spec_GcdOf.j0]) ?_
    rw [gcdV, if_neg (fun h => ha h.1)]
    exact ev_pos rfl (Ev.now _)

/-! spec_GcdOfList -/
theorem spec_GcdOfList.l0_ev (l : List Int) (hl : l.length < 4611686018427387904) : ∀ (d j : Nat) (g : Int), j + d = l.length → Ev (fun k => spec_GcdOfList.l0 k l g (j : Int)) ((l.drop j).foldl gcdV g) := by
  intro d
  induction d with
  | zero =>
    intro j g h1
    refine Ev.step (fun k => by rw [spec_GcdOfList.l0]) ?_
    rw [List.drop_of_length_le (by omega)]
    exact ev_neg (by omega) (Ev.now _)
  | succ d ih =>
    intro j g h1
    have hj : j < l.length := by omega
    refine Ev.step (fun k => by rw [spec_GcdOfList.l0]) ?_
    rw [wadd1 (by omega), rd_nat, getD_get hj, List.drop_eq_getElem_cons hj, List.foldl_cons]
    exact ev_pos (by omega) (ev_pos (by omega) (Ev.bind (spec_GcdOf.ev _ _) (ih (j + 1) _ (by omega))))
theorem spec_GcdOfList.ev (l : List Int) (hl : l.length < 4611686018427387904) : Ev (fun k => spec_GcdOfList.f k l) (gcdLV l) := by
  unfold spec_GcdOfList.f gcdLV
  exact spec_GcdOfList.l0_ev l hl l.length 0 0 (by omega)

/-! laws_toIntS -/
theorem laws_toIntS.l0_ev (xs : List Int) (hx : xs.length ≤ 1048576) : ∀ (d j : Nat) (acc : List Int), j + d = xs.length → acc.length = xs.length → acc.take j = xs.take j → Ev (fun k => laws_toIntS.l0 k xs acc (j : Int)) xs := by
  intro d
  induction d with
  | zero =>
    intro j acc h1 h2 h3
    have e : acc = xs := by rw [← List.take_of_length_le (l := acc) (i := j) (by omega), h3, List.take_of_length_le (by omega)]
    subst e
    refine Ev.step (fun k => by rw [laws_toIntS.l0]) ?_
    refine ev_neg (by omega) (Ev.now _)
  | succ d ih =>
    intro j acc h1 h2 h3
    refine Ev.step (fun k => by rw [laws_toIntS.l0]) ?_
    refine ev_pos (by omega) (ev_pos (by omega) (ev_pos (by omega) ?_))
    rw [wadd1 (by omega)]
    refine ih (j + 1) _ (by omega) (by simp; omega) ?_
    rw [Int.toNat_natCast, rd_nat]
    exact set_take acc xs j _ (by omega) (by omega) h3 (getD_get (by omega)).symm
theorem laws_toIntS.ev (xs : List Int) (hx : xs.length ≤ 1048576) : Ev (fun k => laws_toIntS.f k xs) xs := by
  unfold laws_toIntS.f
  refine ev_pos (by omega) (ev_pos (by omega) ?_)
  rw [Int.toNat_natCast]
  exact laws_toIntS.l0_ev xs hx xs.length 0 _ (by omega) (by simp) (by simp)

/-! impl_within -/
theorem impl_within.eq (a b c : Int) : impl_within.f a b c = some (decide (b ≤ a ∧ a ≤ c)) := by
  unfold impl_within.f
  by_cases h : b ≤ a <;> simp [h]

/-! impl_allWithin -/
theorem impl_allWithin.l0_ev (l : List Int) (lo hi : Int) (hl : l.length < 4611686018427387904) : ∀ (d j : Nat), j + d = l.length → Ev (fun k => impl_allWithin.l0 k lo hi l (l.length : Int) (j : Int)) (B (∀ x ∈ l.drop j, lo ≤ x ∧ x ≤ hi)) := by
  intro d
  induction d with
  | zero =>
    intro j h1
    refine Ev.step (fun k => by rw [impl_allWithin.l0]) ?_
    rw [B_true (by rw [List.drop_of_length_le (by omega)]; simp)]
    exact ev_neg (by omega) (Ev.now _)
  | succ d ih =>
    intro j h1
    have hj : j < l.length := by omega
    refine Ev.step (fun k => by rw [impl_allWithin.l0]) ?_
    rw [wadd1 (by omega), rd_nat, getD_get hj, List.drop_eq_getElem_cons hj, impl_within.eq]
    simp only [Option.bind_some]
    refine ev_pos (by omega) (ev_pos (by omega) (ev_pos (by omega) ?_))
    by_cases e : lo ≤ l[j] ∧ l[j] ≤ hi
    · refine ev_pos (decide_eq_true e) ?_
      rw [B_congr (q := ∀ x ∈ l.drop (j + 1), lo ≤ x ∧ x ≤ hi) (by simp only [List.forall_mem_cons, e.1, e.2, and_self, true_and])]
      exact ih (j + 1) (by omega)
    · refine ev_neg (by simpa using e) ?_
      rw [B_false (fun h => e (h _ List.mem_cons_self))]
      exact Ev.now _
theorem impl_allWithin.ev (l : List Int) (lo hi : Int) (hl : l.length < 4611686018427387904) : Ev (fun k => impl_allWithin.f k l lo hi) (B (∀ x ∈ l, lo ≤ x ∧ x ≤ hi)) := by
  unfold impl_allWithin.f
  exact impl_allWithin.l0_ev l lo hi hl l.length 0 (by omega)

/-! impl_GcdOf -/
theorem impl_GcdOf.l0_ev : ∀ (m n : Nat), Ev (fun k => impl_GcdOf.l0 k (m : Int) (n : Int)) ((Nat.gcd m n : Nat) : Int) := by
  intro m
  induction m using Nat.strongRecOn with
  | _ m ih =>
    intro n
    refine Ev.step (fun k => by rw [impl_GcdOf.l0]) ?_
    by_cases e : m = 0
    · subst e
      rw [Nat.gcd_zero_left]
      exact ev_pos (by omega) (Ev.now _)
    · refine ev_neg (by omega) ?_
      rw [← Int.ofNat_tmod, Nat.gcd_rec m n]
      exact ih (n % m) (Nat.mod_lt _ (by omega)) m
theorem impl_GcdOf.ev (a b : Int) : Ev (fun k => impl_GcdOf.f k a b) (gcdV a b) := by
  unfold impl_GcdOf.f
  refine Ev.bind (impl_allWithin.ev [a, b] (-1000000) 1000000 (by simp)) ?_
  by_cases h : (-1000000 ≤ a ∧ a ≤ 1000000) ∧ (-1000000 ≤ b ∧ b ≤ 1000000)
  · rw [B_true (by simpa using h), gcdV, if_pos h, mx_abs h.1.1 h.1.2, mx_abs h.2.1 h.2.2]
    exact ev_pos rfl (impl_GcdOf.l0_ev _ _)
  · rw [B_false (by simpa using h), gcdV, if_neg h]
    exact ev_neg (by simp) (Ev.now _)

/-! impl_GcdOfList -/
theorem impl_GcdOfList.l0_ev (l : List Int) (hl : l.length < 4611686018427387904) : ∀ (d j : Nat) (g : Int), j + d = l.length → Ev (fun k => impl_GcdOfList.l0 k g l (l.length : Int) (j : Int)) ((l.drop j).foldl gcdV g) := by
  intro d
  induction d with
  | zero =>
    intro j g h1
    refine Ev.step (fun k => by rw [impl_GcdOfList.l0]) ?_
    rw [List.drop_of_length_le (by omega)]
    exact ev_neg (by omega) (Ev.now _)
  | succ d ih =>
    intro j g h1
    have hj : j < l.length := by omega
    refine Ev.step (fun k => by rw [impl_GcdOfList.l0]) ?_
    rw [wadd1 (by omega), rd_nat, getD_get hj, List.drop_eq_getElem_cons hj, List.foldl_cons]
    exact ev_pos (by omega) (ev_pos (by omega) (ev_pos (by omega) (Ev.bind (impl_GcdOf.ev _ _) (ih (j + 1) _ (by omega)))))
theorem impl_GcdOfList.ev (l : List Int) (hl : l.length < 4611686018427387904) : Ev (fun k => impl_GcdOfList.f k l) (gcdLV l) := by
  unfold impl_GcdOfList.f gcdLV
  exact impl_GcdOfList.l0_ev l hl l.length 0 0 (by omega)

/-! laws_eqIntS -/
theorem laws_eqIntS.l0_ev (x y : List Int) (hl : x.length = y.length) (hx : x.length < 4611686018427387904) : ∀ (d j : Nat), j + d = x.length → Ev (fun k => laws_eqIntS.l0 k x y (j : Int)) (B (x.drop j = y.drop j)) := by
  intro d
  induction d with
  | zero =>
    intro j h1
    refine Ev.step (fun k => by rw [laws_eqIntS.l0]) ?_
    rw [B_true (by rw [List.drop_of_length_le (by omega), List.drop_of_length_le (by omega)])]
    exact ev_neg (by omega) (Ev.now _)
  | succ d ih =>
    intro j h1
    have hj : j < x.length := by omega
    have hj' : j < y.length := by omega
    refine Ev.step (fun k => by rw [laws_eqIntS.l0]) ?_
    refine ev_pos (by omega) (ev_pos (by omega) (ev_pos (by omega) ?_))
    rw [wadd1 (by omega), rd_nat, rd_nat, getD_get hj, getD_get hj', List.drop_eq_getElem_cons hj, List.drop_eq_getElem_cons hj']
    by_cases e : x[j] = y[j]
    · refine ev_pos e ?_
      have := ih (j + 1) (by omega)
      rw [B_congr (q := x.drop (j + 1) = y.drop (j + 1)) (by simp only [e, List.cons.injEq, true_and])]
      exact this
    · refine ev_neg e ?_
      rw [B_false (fun h => e (List.cons.inj h).1)]
      exact Ev.now _
theorem laws_eqIntS.ev (x y : List Int) (hx : x.length < 4611686018427387904) : Ev (fun k => laws_eqIntS.f k x y) (B (x = y)) := by
  unfold laws_eqIntS.f
  by_cases e : x.length = y.length
  · refine ev_pos (by omega) ?_
    exact laws_eqIntS.l0_ev x y e hx x.length 0 (by omega)
  · refine ev_neg (by omega) ?_
    rw [B_false (fun h => e (by rw [h]))]
    exact Ev.now _

end Go.Proofs.Ytkikaiebmdadeaa.PFnExactGcdOfList
namespace Go.Proofs.Ytkikaiebmdadeaa.Pure
open Go.RowKit Go.Proofs.YtkikaiebmdadeaaW.PrintWords Go.Proofs.YtkikaiebmdadeaaW.PrintLast Go.Proofs.YtkikaiebmdadeaaW.PrintMore Go.Proofs.YtkikaiebmdadeaaM
set_option linter.unusedVariables false
set_option linter.unusedSimpArgs false
open Go.Proofs.Ytkikaiebmdadeaa.PFnExactGcdOfList
theorem FnExactGcdOfList : laws_FnExactGcdOfList.Pure := by
  intro l0 hl h8 hw
  refine Ev.rounds ?_
  unfold laws_FnExactGcdOfList.f
  by_cases h : (l0.length : Int) > 1048576
  · exact ev_pos h (Ev.now _)
  · refine ev_neg h ?_
    have hx : l0.length ≤ 1048576 := by omega
    refine Ev.bind (laws_toIntS.ev l0 hx) ?_
    refine Ev.bind (spec_GcdOfList.ev l0 (by omega)) ?_
    refine Ev.bind (laws_toIntS.ev l0 hx) ?_
    refine Ev.bind (impl_GcdOfList.ev l0 (by omega)) ?_
    refine ev_pos rfl ?_
    refine Ev.bind (laws_toIntS.ev l0 hx) ?_
    refine Ev.bind (laws_eqIntS.ev l0 l0 (by omega)) ?_
    rw [B_true rfl]
    exact ev_pos rfl (Ev.now _)

end Go.Proofs.Ytkikaiebmdadeaa.Pure
