/- The program's HasNumber answers what the reference's answers, for every list and number (lists of more than 1048576 numbers are let pass by the law itself). No further condition. -/
import Derived.Test.YtdccejocahnjfaaPFnExactHasNumberx1
import Derived.Test.YtdccejocahnjfaaM0
namespace Go.Proofs.Ytdccejocahnjfaa.PFnExactHasNumber
open Go.RowKit Go.Proofs.YtdccejocahnjfaaW.PrintWords Go.Proofs.YtdccejocahnjfaaW.PrintLast Go.Proofs.YtdccejocahnjfaaW.PrintMore Go.Proofs.YtdccejocahnjfaaM
set_option linter.unusedVariables false
set_option linter.unusedSimpArgs false
/-! laws_toIntS -/
theorem laws_toIntS.l0_ev (xs : List Int) (hx : xs.length ≤ 1048576) : ∀ (d j : Nat) (acc : List Int), j + d = xs.length → acc.length = xs.length → acc.take j = xs.take j → Ev (fun k => laws_toIntS.l0 k xs acc (j : Int)) xs := by
  intro d
  induction d with
  | zero =>
    intro j acc h1 h2 h3
    have e : acc = xs := by rw [← List.take_of_length_le (l := acc) (i := j) (by omega), h3, List.take_of_length_le (by omega)]
    subst e
    refine Ev.step (fun k => by rw [laws_toIntS.l0]) ?_
    refine ev_neg (by omega) (Ev.now _)
  | succ d ih =>
    intro j acc h1 h2 h3
    refine Ev.step (fun k => by rw [laws_toIntS.l0]) ?_
    refine ev_pos (by omega) (ev_pos (by omega) (ev_pos (by omega) ?_))
    rw [wadd1 (by omega)]
    refine ih (j + 1) _ (by omega) (by simp; omega) ?_
    rw [Int.toNat_natCast, rd_nat]
    exact set_take acc xs j _ (by omega) (by omega) h3 (getD_get (by omega)).symm
theorem laws_toIntS.ev (xs : List Int) (hx : xs.length ≤ 1048576) : Ev (fun k => laws_toIntS.f k xs) xs := by
  unfold laws_toIntS.f
  refine ev_pos (by omega) (ev_pos (by omega) ?_)
  rw [Int.toNat_natCast]
  exact laws_toIntS.l0_ev xs hx xs.length 0 _ (by omega) (by simp) (by simp)

/-! laws_eqIntS -/
theorem laws_eqIntS.l0_ev (x y : List Int) (hl : x.length = y.length) (hx : x.length < 4611686018427387904) : ∀ (d j : Nat), j + d = x.length → Ev (fun k => laws_eqIntS.l0 k x y (j : Int)) (B (x.drop j = y.drop j)) := by
  intro d
  induction d with
  | zero =>
    intro j h1
    refine Ev.step (fun k => by rw [laws_eqIntS.l0]) ?_
    rw [B_true (by rw [List.drop_of_length_le (by omega), List.drop_of_length_le (by omega)])]
    exact ev_neg (by omega) (Ev.now _)
  | succ d ih =>
    intro j h1
    have hj : j < x.length := by omega
    have hj' : j < y.length := by omega
    refine Ev.step (fun k => by rw [laws_eqIntS.l0]) ?_
    refine ev_pos (by omega) (ev_pos (by omega) (ev_pos (by omega) ?_))
    rw [wadd1 (by omega), rd_nat, rd_nat, getD_get hj, getD_get hj', List.drop_eq_getElem_cons hj, List.drop_eq_getElem_cons hj']
    by_cases e : x[j] = y[j]
    · refine ev_pos e ?_
      have := ih (j + 1) (by omega)
      rw [B_congr (q := x.drop (j + 1) = y.drop (j + 1)) (by simp only [e, List.cons.injEq, true_and])]
      exact this
    · refine ev_neg e ?_
      rw [B_false (fun h => e (List.cons.inj h).1)]
      exact Ev.now _
theorem laws_eqIntS.ev (x y : List Int) (hx : x.length < 4611686018427387904) : Ev (fun k => laws_eqIntS.f k x y) (B (x = y)) := by
  unfold laws_eqIntS.f
  by_cases e : x.length = y.length
  · refine ev_pos (by omega) ?_
    exact laws_eqIntS.l0_ev x y e hx x.length 0 (by omega)
  · refine ev_neg (by omega) ?_
    rw [B_false (fun h => e (by rw [h]))]
    exact Ev.now _

/-! spec_HasNumber -/
theorem spec_HasNumber.l0_ev (l : List Int) (x : Int) (hl : l.length < 4611686018427387904) : ∀ (d j : Nat), j + d = l.length → Ev (fun k => spec_HasNumber.l0 k l x (j : Int)) (B (x ∈ l.drop j)) := by
  intro d
  induction d with
  | zero =>
    intro j h1
    refine Ev.step (fun k => by rw [spec_HasNumber.l0]) ?_
    rw [B_false (by rw [List.drop_of_length_le (by omega)]; simp)]
    exact ev_neg (by omega) (Ev.now _)
  | succ d ih =>
    intro j h1
    have hj : j < l.length := by omega
    refine Ev.step (fun k => by rw [spec_HasNumber.l0]) ?_
    rw [wadd1 (by omega), rd_nat, getD_get hj, List.drop_eq_getElem_cons hj]
    refine ev_pos (by omega) (ev_pos (by omega) ?_)
    by_cases e : l[j] = x
    · rw [B_true (by rw [e]; exact List.mem_cons_self)]
      exact ev_pos e (Ev.now _)
    · refine ev_neg e ?_
      rw [B_congr (q := x ∈ l.drop (j + 1)) (by rw [List.mem_cons]; exact ⟨fun h => h.resolve_left (Ne.symm e), .inr⟩)]
      exact ih (j + 1) (by omega)
theorem spec_HasNumber.ev (l : List Int) (x : Int) (hl : l.length < 4611686018427387904) : Ev (fun k => spec_HasNumber.f k l x) (B (x ∈ l)) := by
  unfold spec_HasNumber.f
  exact spec_HasNumber.l0_ev l x hl l.length 0 (by omega)

/-! slices_Index_int_int -/
theorem slices_Index_int_int.l0_ev (l : List Int) (x : Int) (hl : l.length < 4611686018427387904) : ∀ (d j : Nat), j + d = l.length → ∃ r, Ev (fun k => slices_Index_int_int.l0 k l x (l.length : Int) (j : Int)) r ∧ (0 ≤ r ↔ x ∈ l.drop j) := by
  intro d
  induction d with
  | zero =>
    intro j h1
    refine ⟨-1, Ev.step (fun k => by rw [slices_Index_int_int.l0]) ?_, ?_⟩
    exact ev_neg (by omega) (Ev.now _)
    rw [List.drop_of_length_le (by omega)]; simp
  | succ d ih =>
    intro j h1
    have hj : j < l.length := by omega
    by_cases e : x = l[j]
    · refine ⟨j, Ev.step (fun k => by rw [slices_Index_int_int.l0]) ?_, ?_⟩
      · rw [rd_nat, getD_get hj]
        exact ev_pos (by omega) (ev_pos (by omega) (ev_pos (by omega) (ev_pos e (Ev.now _))))
      · rw [List.drop_eq_getElem_cons hj, e]; exact ⟨fun _ => List.mem_cons_self, fun _ => by omega⟩
    · obtain ⟨r, hr, h⟩ := ih (j + 1) (by omega)
      refine ⟨r, Ev.step (fun k => by rw [slices_Index_int_int.l0]) ?_, ?_⟩
      · rw [rd_nat, getD_get hj, wadd1 (by omega)]
        exact ev_pos (by omega) (ev_pos (by omega) (ev_pos (by omega) (ev_neg e hr)))
      · rw [List.drop_eq_getElem_cons hj, h, List.mem_cons]; exact ⟨.inr, fun hh => hh.resolve_left e⟩

/-! slices_Contains_int_int -/
theorem slices_Contains_int_int.ev (l : List Int) (x : Int) (hl : l.length < 4611686018427387904) : Ev (fun k => slices_Contains_int_int.f k l x) (B (x ∈ l)) := by
  obtain ⟨r, hr, h⟩ := slices_Index_int_int.l0_ev l x hl l.length 0 (by omega)
  unfold slices_Contains_int_int.f slices_Index_int_int.f
  refine Ev.bind hr ?_
  rw [B_dec, B_congr (q := x ∈ l) (by simpa using h)]
  exact Ev.now _

/-! impl_HasNumber -/
theorem impl_HasNumber.ev (l : List Int) (x : Int) (hl : l.length < 4611686018427387904) : Ev (fun k => impl_HasNumber.f k l x) (B (x ∈ l)) := by
  unfold impl_HasNumber.f
  exact Ev.bind (slices_Contains_int_int.ev l x hl) (Ev.now _)

end Go.Proofs.Ytdccejocahnjfaa.PFnExactHasNumber
namespace Go.Proofs.Ytdccejocahnjfaa.Pure
open Go.RowKit Go.Proofs.YtdccejocahnjfaaW.PrintWords Go.Proofs.YtdccejocahnjfaaW.PrintLast Go.Proofs.YtdccejocahnjfaaW.PrintMore Go.Proofs.YtdccejocahnjfaaM
set_option linter.unusedVariables false
set_option linter.unusedSimpArgs false
open Go.Proofs.Ytdccejocahnjfaa.PFnExactHasNumber
theorem FnExactHasNumber : laws_FnExactHasNumber.Pure := by
  intro l0 a1 hl h8 hw hw1
  refine Ev.rounds ?_
  unfold laws_FnExactHasNumber.f
  by_cases h : (l0.length : Int) > 1048576
  · exact ev_pos h (Ev.now _)
  · refine ev_neg h ?_
    have hx : l0.length ≤ 1048576 := by omega
    refine Ev.bind (laws_toIntS.ev l0 hx) ?_
    refine Ev.bind (spec_HasNumber.ev l0 a1 (by omega)) ?_
    refine Ev.bind (laws_toIntS.ev l0 hx) ?_
    refine Ev.bind (impl_HasNumber.ev l0 a1 (by omega)) ?_
    refine ev_neg (by simp) ?_
    refine Ev.bind (laws_toIntS.ev l0 hx) ?_
    refine Ev.bind (laws_eqIntS.ev l0 l0 (by omega)) ?_
    rw [B_true rfl]
    exact ev_pos rfl (Ev.now _)

end Go.Proofs.Ytdccejocahnjfaa.Pure
