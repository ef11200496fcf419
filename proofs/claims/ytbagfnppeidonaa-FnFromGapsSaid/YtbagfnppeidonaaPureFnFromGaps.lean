/- A list is one of gaps exactly if no sum of two other numbers is in it: for every input. No further condition. -/
import Derived.Test.YtbagfnppeidonaaQFnFromGaps0
namespace Go.Proofs.Ytbagfnppeidonaa.PFnFromGaps
open Go.RowKit Go.Proofs.YtbagfnppeidonaaW.PrintWords Go.Proofs.YtbagfnppeidonaaW.PrintLast Go.Proofs.YtbagfnppeidonaaW.PrintMore Go.Proofs.YtbagfnppeidonaaM
set_option linter.unusedVariables false
set_option linter.unusedSimpArgs false
/-! spec_l3Draw -/
theorem spec_l3Draw.list_ev (s : List Int) (hs : s.length < 4611686018427387904) (i : Int) (hi : 0 ≤ i) (h : Int) : ∃ g i' h', Ev (fun k => (spec_l3List.f s i h).bind fun bt => ((spec_FromGens.f k bt.1).bind fun bu => (some (bu.1, bt.2.1, bt.2.2)))) (g, i', h') ∧ SG g ∧ 0 ≤ i' := by
  obtain ⟨g, i1, h1, e1, hg, hi1⟩ := spec_l3List.eq s hs i hi h
  rw [e1]
  simp only [Option.bind_some]
  exact ⟨g, i1, h1, Ev.bind (spec_FromGens.sg g (drawn8_sg hg)) (Ev.now _), drawn8_sg hg, hi1⟩
theorem spec_l3Draw.l1_ev (s : List Int) (hs : s.length < 4611686018427387904) (q : Int) (n : Int) (hn : n ≤ 1000) (hq : ∀ i h, 0 ≤ i → ∃ g i' h', Ev (fun k => spec_l3Draw.l0 k (wrap64 (q + 1)) s i h) (g, i', h') ∧ SG g ∧ 0 ≤ i') : ∀ (d j : Nat) (l : List Int) (i h : Int), 0 ≤ i → 1 ≤ l.length → l.length ≤ j + 1 → j ≤ 1000 → n ≤ (j : Int) + d → ∃ g i' h', Ev (fun k => spec_l3Draw.l1 k q l n (j : Int) s i h) (g, i', h') ∧ SG g ∧ 0 ≤ i' := by
  intro d
  induction d with
  | zero =>
    intro j l i h h1 h2 h3 h4 h5
    obtain ⟨r, hr, hv⟩ := spec_FromGens.ev l (by omega)
    by_cases hb : r.2 = true
    · refine ⟨r.1, i, h, Ev.step (fun k => by rw [spec_l3Draw.l1]) ?_, hv.sg hb, h1⟩
      exact ev_neg (by omega) (Ev.bind hr (ev_pos hb (Ev.now _)))
    · obtain ⟨g, i', h', e, e2, e3⟩ := hq i h h1
      refine ⟨g, i', h', Ev.step (fun k => by rw [spec_l3Draw.l1]) ?_, e2, e3⟩
      exact ev_neg (by omega) (Ev.bind hr (ev_neg hb e))
  | succ d ih =>
    intro j l i h h1 h2 h3 h4 h5
    by_cases c : (j : Int) < n
    · obtain ⟨x, i1, y1, e1, hx, hi1⟩ := spec_l1Below.eq s hs i h1 h 12 (by omega)
      obtain ⟨g, i', h', e, e2, e3⟩ := ih (j + 1) (l ++ [wrap64 ((wrap64 ((rd l 0) + 1)) + x)]) i1 y1 hi1 (by simp) (by simp; omega) (by omega) (by omega)
      refine ⟨g, i', h', Ev.step (fun k => by rw [spec_l3Draw.l1]) ?_, e2, e3⟩
      rw [e1, wadd1 (j := j) (by omega)]
      exact ev_pos c (ev_pos (by omega) (ev_pos (by omega) e))
    · obtain ⟨r, hr, hv⟩ := spec_FromGens.ev l (by omega)
      by_cases hb : r.2 = true
      · refine ⟨r.1, i, h, Ev.step (fun k => by rw [spec_l3Draw.l1]) ?_, hv.sg hb, h1⟩
        exact ev_neg c (Ev.bind hr (ev_pos hb (Ev.now _)))
      · obtain ⟨g, i', h', e, e2, e3⟩ := hq i h h1
        refine ⟨g, i', h', Ev.step (fun k => by rw [spec_l3Draw.l1]) ?_, e2, e3⟩
        exact ev_neg c (Ev.bind hr (ev_neg hb e))
theorem spec_l3Draw.l0_ev (s : List Int) (hs : s.length < 4611686018427387904) : ∀ (d q : Nat), q + d = 4 → ∀ (i h : Int), 0 ≤ i → ∃ g i' h', Ev (fun k => spec_l3Draw.l0 k (q : Int) s i h) (g, i', h') ∧ SG g ∧ 0 ≤ i' := by
  intro d
  induction d with
  | zero =>
    intro q hq i h hi
    obtain ⟨g, i', h', e, e2, e3⟩ := spec_l3Draw.list_ev s hs i hi h
    refine ⟨g, i', h', Ev.step (fun k => by rw [spec_l3Draw.l0]) ?_, e2, e3⟩
    exact ev_neg (by omega) e
  | succ d ih =>
    intro q hq i h hi
    obtain ⟨x, i1, y1, e1, hx, hi1⟩ := spec_l1Below.eq s hs i hi h 8 (by omega)
    obtain ⟨y, i2, y2, e2, hy, hi2⟩ := spec_l1Below.eq s hs i1 hi1 y1 4 (by omega)
    have w1 : wrap64 (1 + y) = 1 + y := w64 (by omega) (by omega)
    obtain ⟨g, i', h', e, e4, e5⟩ := spec_l3Draw.l1_ev s hs (q : Int) (1 + y) (by omega) (fun i h hi => by
      have := ih (q + 1) (by omega) i h hi
      rwa [← wadd1 (j := q) (by omega)] at this) 5 0 [wrap64 (2 + x)] i2 y2 hi2 (by simp) (by simp) (by omega) (by omega)
    refine ⟨g, i', h', Ev.step (fun k => by rw [spec_l3Draw.l0]) ?_, e4, e5⟩
    rw [e1]
    simp only [Option.bind_some]
    rw [e2]
    simp only [Option.bind_some]
    rw [w1]
    exact ev_pos (by omega) e
theorem spec_l3Draw.ev (s : List Int) (hs : s.length < 4611686018427387904) (i : Int) (hi : 0 ≤ i) (h : Int) : ∃ g i' h', Ev (fun k => spec_l3Draw.f k s i h) (g, i', h') ∧ SG g ∧ 0 ≤ i' := by
  obtain ⟨b, i1, h1, e1, hi1⟩ := spec_l1Once.eq s hs i hi h 4 (by omega)
  unfold spec_l3Draw.f
  rw [e1]
  simp only [Option.bind_some]
  cases b with
  | true =>
    obtain ⟨g, i', h', e, e2, e3⟩ := spec_l3Draw.list_ev s hs i1 hi1 h1
    exact ⟨g, i', h', ev_pos rfl e, e2, e3⟩
  | false =>
    obtain ⟨g, i', h', e, e2, e3⟩ := spec_l3Draw.l0_ev s hs 4 0 (by omega) i1 h1 hi1
    exact ⟨g, i', h', ev_neg (by simp) e, e2, e3⟩

/-! spec_l2Draw -/
theorem spec_l2Draw.l0_ev (s : List Int) (hs : s.length < 4611686018427387904) (n : Int) (hn : n ≤ 1000) : ∀ (d j : Nat) (acc : List Int) (i h : Int), 0 ≤ i → acc.length = j → n ≤ (j : Int) + d → j + d ≤ 1000 → ∃ l i' h', Ev (fun k => spec_l2Draw.l0 k acc n (j : Int) s i h) (l, i', h') ∧ l.length ≤ 1000 ∧ (∀ x ∈ l, x ∈ acc ∨ (-4 ≤ x ∧ x ≤ 20)) ∧ 0 ≤ i' := by
  intro d
  induction d with
  | zero =>
    intro j acc i h hi h1 h2 h3
    refine ⟨acc, i, h, Ev.step (fun k => by rw [spec_l2Draw.l0]) ?_, by omega, fun x hx => .inl hx, hi⟩
    exact ev_neg (by omega) (Ev.now _)
  | succ d ih =>
    intro j acc i h hi h1 h2 h3
    by_cases c : (j : Int) < n
    · obtain ⟨x, i1, h1', e1, hx, hi1⟩ := spec_l1Below.eq s hs i hi h 25 (by omega)
      obtain ⟨l, i2, h2', e2, hl, hm, hi2⟩ := ih (j + 1) (acc ++ [wrap64 (x - 4)]) i1 h1' hi1 (by rw [List.length_append, List.length_singleton]; omega) (by omega) (by omega)
      refine ⟨l, i2, h2', Ev.step (fun k => by rw [spec_l2Draw.l0]) ?_, hl, ?_, hi2⟩
      · rw [e1, wadd1 (j := j) (by omega)]
        simp only [Option.bind_some]
        exact ev_pos c (ev_pos (by omega) e2)
      · intro y hy
        rcases hm y hy with hy | hy
        · rw [List.mem_append, List.mem_singleton] at hy
          rcases hy with hy | hy
          · exact .inl hy
          · rw [w64 (by omega) (by omega)] at hy
            exact .inr (by omega)
        · exact .inr hy
    · refine ⟨acc, i, h, Ev.step (fun k => by rw [spec_l2Draw.l0]) ?_, by omega, fun x hx => .inl hx, hi⟩
      exact ev_neg c (Ev.now _)
theorem spec_l2Draw.ev (s : List Int) (hs : s.length < 4611686018427387904) (i : Int) (hi : 0 ≤ i) (h : Int) : ∃ l i' h', Ev (fun k => spec_l2Draw.f k s i h) (l, i', h') ∧ l.length ≤ 1000 ∧ (∀ x ∈ l, -4 ≤ x ∧ x ≤ 20) ∧ 0 ≤ i' := by
  obtain ⟨n, i1, h1, e1, hn, hi1⟩ := spec_l1Below.eq s hs i hi h 6 (by omega)
  obtain ⟨l, i2, h2, e2, hl, hm, hi2⟩ := spec_l2Draw.l0_ev s hs n (by omega) 6 0 [] i1 h1 hi1 rfl (by omega) (by omega)
  refine ⟨l, i2, h2, ?_, hl, fun x hx => (hm x hx).resolve_left (by simp), hi2⟩
  unfold spec_l2Draw.f
  rw [e1]
  simp only [Option.bind_some]
  exact e2

/-! spec_l8List -/
theorem spec_l8List.ev (l : List Int) (hl : l.length < 4611686018427387904) : ∃ r, Ev (fun k => spec_l8List.f k l) r ∧ r.length ≤ 1000 := by
  obtain ⟨h, hh⟩ := spec_l1New.ev l hl
  obtain ⟨g, i1, h1, e1, hg, hi1⟩ := spec_l3Draw.ev l hl 0 (by omega) h
  have hG := spec_Gaps.ev g (by have := hg.1.2; omega)
  rw [if_pos (B_true hg)] at hG
  have hgl := gapsV_length g
  obtain ⟨a, i2, h2, e2, ha, hi2⟩ := spec_l1Below.eq l hl i1 hi1 h1 6 (by omega)
  have start : ∀ r, r.length ≤ 1000 → Ev (fun k => if a = 0 then ((spec_l2Draw.f k l i2 h2).bind fun bt592 => ((spec_SortList.f k bt592.1).bind fun t597 => (some t597))) else (if a = 1 then (if ((gapsV g).length : Int) > 1 then ((spec_l1Below.f l i2 h2 ((gapsV g).length : Int)).bind fun bt600 => ((some (([] : List Int) : List Int)).bind fun y603 => (if 0 ≤ bt600.1 then (if bt600.1 ≤ ((gapsV g).length : Int) then ((some ((gapsV g).take (bt600.1 : Int).toNat : List Int)).bind fun y606 => (if y603.length + y606.length < 17592186044416 then ((some (y603 ++ y606 : List Int)).bind fun y610 => (if 0 ≤ (wrap64 (bt600.1 + 1)) then (if (wrap64 (bt600.1 + 1)) ≤ ((gapsV g).length : Int) then ((some ((gapsV g).drop ((wrap64 (bt600.1 + 1)) : Int).toNat : List Int)).bind fun y613 => (if y610.length + y613.length < 17592186044416 then (some (y610 ++ y613)) else (none))) else (none)) else (none))) else (none))) else (none)) else (none)))) else (some (gapsV g))) else (if a = 2 then ((spec_l1Once.f l i2 h2 3).bind fun bt620 => (if bt620.1 = true then ((spec_l1PickInt.f l bt620.2.1 bt620.2.2 (([0, 200, 199] : List Int))).bind fun bt626 => (if (gapsV g).length < 17592186044416 then (some ((gapsV g) ++ [bt626.1])) else (none))) else (some (gapsV g)))) else (some (gapsV g))))) r → Ev (fun k => spec_l8List.f k l) r := by
    intro r hr hE
    unfold spec_l8List.f
    refine Ev.bind hh (Ev.bind e1 (Ev.bind hG ?_))
    simp only []
    rw [e2]
    simp only [Option.bind_some]
    exact hE
  by_cases c0 : a = 0
  · obtain ⟨m, i3, h3, e3, hm, _, hi3⟩ := spec_l2Draw.ev l hl i2 hi2 h2
    obtain ⟨r, hr, _, hrl⟩ := spec_SortList.ev m (by omega)
    exact ⟨r, start r (by omega) (ev_pos c0 (Ev.bind e3 (Ev.bind hr (Ev.now _)))), by omega⟩
  · by_cases c1 : a = 1
    · by_cases c2 : ((gapsV g).length : Int) > 1
      · obtain ⟨b, i3, h3, e3, hb, hi3⟩ := spec_l1Below.eq l hl i2 hi2 h2 ((gapsV g).length : Int) (by omega)
        have hw : wrap64 (b + 1) = b + 1 := w64 (by omega) (by omega)
        refine ⟨(([] : List Int) ++ (gapsV g).take b.toNat) ++ (gapsV g).drop (b + 1).toNat, start _ ?_ (ev_neg c0 (ev_pos c1 (ev_pos c2 ?_))), ?_⟩
        · simp only [List.length_append, List.length_take, List.length_drop, List.length_nil]; omega
        · rw [e3]
          simp only [Option.bind_some, hw]
          refine ev_pos hb.1 (ev_pos (by omega) (ev_pos ?_ (ev_pos (by omega) (ev_pos (by omega) (ev_pos ?_ (Ev.now _))))))
          · simp only [List.length_take, List.length_nil]; omega
          · simp only [List.length_append, List.length_take, List.length_drop, List.length_nil]; omega
        · simp only [List.length_append, List.length_take, List.length_drop, List.length_nil]; omega
      · exact ⟨gapsV g, start _ (by omega) (ev_neg c0 (ev_pos c1 (ev_neg c2 (Ev.now _)))), by omega⟩
    · by_cases c2 : a = 2
      · obtain ⟨b, i3, h3, e3, hi3⟩ := spec_l1Once.eq l hl i2 hi2 h2 3 (by omega)
        by_cases c3 : b = true
        · obtain ⟨x, i4, h4, e4, hx, hi4⟩ := spec_l1PickInt.eq l hl i3 hi3 h3 [0, 200, 199] (by simp)
          refine ⟨gapsV g ++ [x], start _ ?_ (ev_neg c0 (ev_neg c1 (ev_pos c2 ?_))), ?_⟩
          · rw [List.length_append, List.length_singleton]; omega
          · rw [e3]
            simp only [Option.bind_some]
            refine ev_pos c3 ?_
            rw [e4]
            simp only [Option.bind_some]
            exact ev_pos (by omega) (Ev.now _)
          · rw [List.length_append, List.length_singleton]; omega
        · refine ⟨gapsV g, start _ (by omega) (ev_neg c0 (ev_neg c1 (ev_pos c2 ?_))), by omega⟩
          rw [e3]
          simp only [Option.bind_some]
          exact ev_neg c3 (Ev.now _)
      · exact ⟨gapsV g, start _ (by omega) (ev_neg c0 (ev_neg c1 (ev_neg c2 (Ev.now _)))), by omega⟩

/-! spec_DrawFromGaps -/
theorem spec_DrawFromGaps.ev (l : List Int) (hl : l.length < 4611686018427387904) : ∃ r, Ev (fun k => spec_DrawFromGaps.f k l) r ∧ r.length ≤ 1000 := by
  obtain ⟨r, hr, hz⟩ := spec_l8List.ev l hl
  refine ⟨r, ?_, hz⟩
  unfold spec_DrawFromGaps.f
  exact Ev.bind hr (Ev.now _)

/-! spec_DrawFromElements -/
theorem spec_DrawFromElements.ev (l : List Int) (hl : l.length < 4611686018427387904) : ∃ r n, Ev (fun k => spec_DrawFromElements.f k l) (r, n) ∧ r.length ≤ 1000 := by
  obtain ⟨h, hh⟩ := spec_l1New.ev l hl
  obtain ⟨g, i1, h1, e1, hg, hi1⟩ := spec_l3Draw.ev l hl 0 (by omega) h
  have hgl := hg.1.2
  have hS := spec_SmallElements.ev g (by omega)
  rw [if_pos (B_true hg)] at hS
  have hC := spec_ConductorOf.ev g (by omega)
  have hz := smallV_length g
  generalize smallV g (frobV g + 1).toNat = t at hS hz
  obtain ⟨a, i2, h2, e2, ha, hi2⟩ := spec_l1Below.eq l hl i1 hi1 h1 6 (by omega)
  by_cases c0 : a = 0
  · obtain ⟨b, i3, h3, e3, hb, hi3⟩ := spec_l1Below.eq l hl i2 hi2 h2 3 (by omega)
    refine ⟨t, wrap64 (wrap64 (frobV g + 1 + b) - 1), ?_, hz⟩
    unfold spec_DrawFromElements.f
    refine Ev.bind hh (Ev.bind e1 (Ev.bind hS (Ev.bind hC ?_)))
    simp only []
    rw [e2]
    simp only [Option.bind_some]
    refine ev_pos c0 ?_
    rw [e3]
    exact Ev.now _
  · by_cases c1 : a = 1
    · by_cases c2 : (t.length : Int) > 1
      · have hw : wrap64 ((t.length : Int) - 1) = (t.length : Int) - 1 := w64 (by omega) (by omega)
        refine ⟨t.take ((t.length : Int) - 1).toNat, frobV g + 1, ?_, by rw [List.length_take]; omega⟩
        unfold spec_DrawFromElements.f
        refine Ev.bind hh (Ev.bind e1 (Ev.bind hS (Ev.bind hC ?_)))
        simp only []
        rw [e2]
        simp only [Option.bind_some, hw]
        exact ev_neg c0 (ev_pos c1 (ev_pos c2 (ev_pos (by omega) (ev_pos (by omega) (Ev.now _)))))
      · refine ⟨t, frobV g + 1, ?_, hz⟩
        unfold spec_DrawFromElements.f
        refine Ev.bind hh (Ev.bind e1 (Ev.bind hS (Ev.bind hC ?_)))
        simp only []
        rw [e2]
        simp only [Option.bind_some]
        exact ev_neg c0 (ev_pos c1 (ev_neg c2 (Ev.now _)))
    · refine ⟨t, frobV g + 1, ?_, hz⟩
      unfold spec_DrawFromElements.f
      refine Ev.bind hh (Ev.bind e1 (Ev.bind hS (Ev.bind hC ?_)))
      simp only []
      rw [e2]
      simp only [Option.bind_some]
      exact ev_neg c0 (ev_neg c1 (Ev.now _))

/-! spec_EqualSemigroup -/
theorem spec_EqualSemigroup.ev (x y : List Int) (hx : x.length < 4611686018427387904) : Ev (fun k => spec_EqualSemigroup.f k x y) (B (x = y)) := by
  unfold spec_EqualSemigroup.f
  exact Ev.bind (spec_l2Same.ev x y hx) (Ev.now _)

end Go.Proofs.Ytbagfnppeidonaa.PFnFromGaps
namespace Go.Proofs.Ytbagfnppeidonaa.Pure
open Go.RowKit Go.Proofs.YtbagfnppeidonaaW.PrintWords Go.Proofs.YtbagfnppeidonaaW.PrintLast Go.Proofs.YtbagfnppeidonaaW.PrintMore Go.Proofs.YtbagfnppeidonaaM
set_option linter.unusedVariables false
set_option linter.unusedSimpArgs false
open Go.Proofs.Ytbagfnppeidonaa.PFnFromGaps
theorem GC.bad {l : List Int} {r : Int × Int × Bool} (h : GC l r) (hb : r.2.2 = true) : r.1 ∉ l ∧ r.2.1 ∉ l ∧ wrap64 (r.1 + r.2.1) ∈ l := by
  rcases h with ⟨_, rfl⟩ | ⟨hg, hn, hf⟩
  · cases hb
  · rcases hf with ⟨rfl, _⟩ | ⟨a, b, h1, h2, h3, h4, rfl, _⟩
    · cases hb
    · obtain ⟨v1, v2, v3⟩ := h4
      have hr := hg.2 _ v3
      have e : wrap64 ((a : Int) + (b : Int)) = ((a + b : Nat) : Int) := by
        rw [w64 (by omega) (by omega)]; omega
      refine ⟨v1, v2, ?_⟩
      show wrap64 ((a : Int) + (b : Int)) ∈ l
      rw [e]
      exact v3
theorem GC.not_ok {l : List Int} {r : Int × Int × Bool} (h : GC l r) (hb : r.2.2 = true) : ¬ (fgV l).2 = true := by
  intro hk
  unfold fgV at hk
  by_cases c : GapL l ∧ Closed l ∧ SG (irrL l 401)
  · exact (h.closed c.1).1 hb c.2.1
  · rw [if_neg (by rw [B_false c]; simp)] at hk
    cases hk
theorem FnFromGaps.j1_ev (sm : List Int) (n : Int) (hs : sm.length ≤ 1000) : Ev (fun k => laws_FnFromGaps.j1 k sm n (feV sm n).2 false (feV sm n).1) true := by
  have hz := feV_length sm n
  refine Ev.step (fun k => by rw [laws_FnFromGaps.j1]) ?_
  refine ev_neg (by simp) ?_
  by_cases c : (feV sm n).2 = true
  · obtain ⟨h1, h2, h3⟩ := feV_true c
    have hS := impl_SmallElements.ev (feV sm n).1 (by omega)
    rw [if_pos (B_true h1), h3] at hS
    refine ev_pos c (Ev.bind hS (Ev.bind (laws_sameInts.ev sm sm (by omega)) (ev_pos (B_true rfl) (Ev.bind (impl_ConductorOf.ev _ (by omega)) ?_))))
    rw [h2, beq_self_eq_true]
    exact Ev.now _
  · exact ev_neg c (Ev.now _)
theorem FnFromGaps.j0_ev (l : List Int) (c : Int × Int × Bool) (hc : GC l c) (hl : l.length ≤ 1000) (sm : List Int) (n : Int) (hs : sm.length ≤ 1000) : Ev (fun k => laws_FnFromGaps.j0 k l c.2.2 sm n (feV sm n).2 false c.1 c.2.1 (feV sm n).1) true := by
  refine Ev.step (fun k => by rw [laws_FnFromGaps.j0]) ?_
  refine ev_neg (by simp) ?_
  by_cases b : c.2.2 = true
  · obtain ⟨m1, m2, m3⟩ := GC.bad hc b
    refine ev_pos b (Ev.bind (spec_HasNumber.ev l _ (by omega)) (ev_neg (by rw [B_false m1]; simp) (Ev.bind (spec_HasNumber.ev l _ (by omega)) (ev_neg (by rw [B_false m2]; simp) (Ev.bind (spec_HasNumber.ev l _ (by omega)) ?_)))))
    rw [B_true m3]
    exact FnFromGaps.j1_ev sm n hs
  · exact ev_neg b (FnFromGaps.j1_ev sm n hs)
theorem FnFromGaps : laws_FnFromGaps.Pure := by
  intro l0 hl h1 hw
  have hl' : l0.length < 4611686018427387904 := by omega
  refine ev_rounds ?_
  unfold laws_FnFromGaps.f laws_big.f
  simp only [Option.bind_some]
  by_cases h : (l0.length : Int) > 1048576
  · exact ev_pos (decide_eq_true h) (Ev.now _)
  · refine ev_neg (by simpa using h) ?_
    obtain ⟨l, hd, hz⟩ := spec_DrawFromGaps.ev l0 hl'
    obtain ⟨sm, n, hd2, hz2⟩ := spec_DrawFromElements.ev l0 hl'
    obtain ⟨r, hr, hr2⟩ := impl_FromGaps.ev l (by omega)
    obtain ⟨r', hr', hr2'⟩ := spec_FromGaps.ev l (by omega)
    obtain ⟨c, hc, hc2⟩ := impl_GapClash.ev l (by omega)
    obtain ⟨c', hc', hc2'⟩ := spec_GapClash.ev l (by omega)
    obtain rfl := hr2.unique hr2'
    obtain rfl := hc2.unique hc2'
    have hrv : r = fgV l := hr2
    have hrl := hr2.length
    have hfl := feV_length sm n
    refine Ev.bind hd (Ev.bind hr (Ev.bind hr' (Ev.bind hc (Ev.bind hc' (Ev.bind hd2 (Ev.bind (impl_FromElements.ev sm (by omega) n) (Ev.bind (spec_FromElements.ev sm (by omega) n) ?_)))))))
    refine ev_neg (by simp) (Ev.bind (spec_EqualSemigroup.ev _ _ (by omega)) (ev_pos (B_true rfl) (ev_neg (by simp) (ev_neg (by simp) ?_))))
    have fin := FnFromGaps.j0_ev l c hc2 hz sm n hz2
    by_cases b : c.2.2 = true
    · have nk : ¬ r.2 = true := by rw [hrv]; exact GC.not_ok hc2 b
      exact ev_pos b (ev_neg nk (ev_neg (by simp) (Ev.bind (spec_EqualSemigroup.ev _ _ (by omega)) (ev_pos (B_true rfl) fin))))
    · refine ev_neg b (ev_neg (by simp) (Ev.bind (spec_EqualSemigroup.ev _ _ (by omega)) (ev_pos (B_true rfl) ?_)))
      by_cases k : r.2 = true
      · have k2 := k
        rw [hrv] at k2
        obtain ⟨s1, s2⟩ := fgV_true k2
        have hG := impl_Gaps.ev r.1 (by omega)
        rw [hrv, if_pos (B_true s1), s2, ← hrv] at hG
        refine ev_pos k (Ev.bind hG (Ev.bind (laws_sameInts.ev l l (by omega)) ?_))
        rw [B_true rfl]
        exact fin
      · exact ev_neg k fin

end Go.Proofs.Ytbagfnppeidonaa.Pure
