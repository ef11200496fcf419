/- The program's CoordinateClash answers what the reference's answers, for every list (lists of more than 1048576 numbers are let pass by the law itself). No further condition. -/
import Derived.Test.YtdccejocahnjfaaPFnExactCoordinateClashx1
import Derived.Test.YtdccejocahnjfaaPFnExactCoordinateClashx2
import Derived.Test.YtdccejocahnjfaaPFnExactCoordinateClashx3
import Derived.Test.YtdccejocahnjfaaPFnExactCoordinateClashx4
import Derived.Test.YtdccejocahnjfaaM0
namespace Go.Proofs.Ytdccejocahnjfaa.PFnExactCoordinateClash
open Go.RowKit Go.Proofs.YtdccejocahnjfaaW.PrintWords Go.Proofs.YtdccejocahnjfaaW.PrintLast Go.Proofs.YtdccejocahnjfaaW.PrintMore Go.Proofs.YtdccejocahnjfaaM
set_option linter.unusedVariables false
set_option linter.unusedSimpArgs false
/-! laws_toIntS -/
theorem laws_toIntS.l0_ev (xs : List Int) (hx : xs.length ≤ 1048576) : ∀ (d j : Nat) (acc : List Int), j + d = xs.length → acc.length = xs.length → acc.take j = xs.take j → Ev (fun k => laws_toIntS.l0 k xs acc (j : Int)) xs := by
  intro d
  induction d with
  | zero =>
    intro j acc h1 h2 h3
    have e : acc = xs := by rw [← List.take_of_length_le (l := acc) (i := j) (by omega), h3, List.take_of_length_le (by omega)]
    subst e
    refine Ev.step (fun k => by rw [laws_toIntS.l0]) ?_
    refine ev_neg (by omega) (Ev.now _)
  | succ d ih =>
    intro j acc h1 h2 h3
    refine Ev.step (fun k => by rw [laws_toIntS.l0]) ?_
    refine ev_pos (by omega) (ev_pos (by omega) (ev_pos (by omega) ?_))
    rw [wadd1 (by omega)]
    refine ih (j + 1) _ (by omega) (by simp; omega) ?_
    rw [Int.toNat_natCast, rd_nat]
    exact set_take acc xs j _ (by omega) (by omega) h3 (getD_get (by omega)).symm
theorem laws_toIntS.ev (xs : List Int) (hx : xs.length ≤ 1048576) : Ev (fun k => laws_toIntS.f k xs) xs := by
  unfold laws_toIntS.f
  refine ev_pos (by omega) (ev_pos (by omega) ?_)
  rw [Int.toNat_natCast]
  exact laws_toIntS.l0_ev xs hx xs.length 0 _ (by omega) (by simp) (by simp)

/-! laws_eqIntS -/
theorem laws_eqIntS.l0_ev (x y : List Int) (hl : x.length = y.length) (hx : x.length < 4611686018427387904) : ∀ (d j : Nat), j + d = x.length → Ev (fun k => laws_eqIntS.l0 k x y (j : Int)) (B (x.drop j = y.drop j)) := by
  intro d
  induction d with
  | zero =>
    intro j h1
    refine Ev.step (fun k => by rw [laws_eqIntS.l0]) ?_
    rw [B_true (by rw [List.drop_of_length_le (by omega), List.drop_of_length_le (by omega)])]
    exact ev_neg (by omega) (Ev.now _)
  | succ d ih =>
    intro j h1
    have hj : j < x.length := by omega
    have hj' : j < y.length := by omega
    refine Ev.step (fun k => by rw [laws_eqIntS.l0]) ?_
    refine ev_pos (by omega) (ev_pos (by omega) (ev_pos (by omega) ?_))
    rw [wadd1 (by omega), rd_nat, rd_nat, getD_get hj, getD_get hj', List.drop_eq_getElem_cons hj, List.drop_eq_getElem_cons hj']
    by_cases e : x[j] = y[j]
    · refine ev_pos e ?_
      have := ih (j + 1) (by omega)
      rw [B_congr (q := x.drop (j + 1) = y.drop (j + 1)) (by simp only [e, List.cons.injEq, true_and])]
      exact this
    · refine ev_neg e ?_
      rw [B_false (fun h => e (List.cons.inj h).1)]
      exact Ev.now _
theorem laws_eqIntS.ev (x y : List Int) (hx : x.length < 4611686018427387904) : Ev (fun k => laws_eqIntS.f k x y) (B (x = y)) := by
  unfold laws_eqIntS.f
  by_cases e : x.length = y.length
  · refine ev_pos (by omega) ?_
    exact laws_eqIntS.l0_ev x y e hx x.length 0 (by omega)
  · refine ev_neg (by omega) ?_
    rw [B_false (fun h => e (by rw [h]))]
    exact Ev.now _

/-! spec_l1In -/
theorem spec_l1In.eq (a b c : Int) : spec_l1In.f a b c = some (decide (b ≤ a ∧ a ≤ c)) := by
  unfold spec_l1In.f
  by_cases h : b ≤ a <;> simp [h]

/-! spec_CoordinateClash -/
set_option maxHeartbeats 4000000 in
theorem spec_CoordinateClash.l1_ev (l : List Int) (hl : l.length < 1000000000) (hin : ∀ j, j < l.length → 1 ≤ l.getD j 0 ∧ l.getD j 0 ≤ 200) : ∀ (d a : Nat), 1 ≤ a → l.length + 1 ≤ a + d → (∀ a' b', 1 ≤ a' → a' ≤ b' → b' ≤ l.length → a' < a → ¬ ccViol l a' b') → ∃ r, Ev (fun k => spec_CoordinateClash.l1 k l ((l.length + 1 : Nat) : Int) (a : Int)) r ∧ First (ccViol l) l.length r := by
  intro d
  induction d with
  | zero =>
    intro a h1 h2 h3
    refine ⟨_, Ev.step (fun k => by rw [spec_CoordinateClash.l1]) ?_, .inl ⟨rfl, fun a' b' x y z => h3 a' b' x y z (by omega)⟩⟩
    exact ev_neg (by omega) (Ev.now _)
  | succ d ih =>
    intro a h1 h2 h3
    by_cases ha : a < l.length + 1
    · have inner : ∀ (d' b : Nat), a ≤ b → l.length + 1 ≤ b + d' → (∀ b', a ≤ b' → b' < b → ¬ ccViol l a b') → ∃ r, Ev (fun k => spec_CoordinateClash.l2 k l ((l.length + 1 : Nat) : Int) (a : Int) (b : Int)) r ∧ First (ccViol l) l.length r := by
        have past : ∀ b, l.length + 1 ≤ b → (∀ b', a ≤ b' → b' < b → ¬ ccViol l a b') → ∃ r, Ev (fun k => spec_CoordinateClash.l2 k l ((l.length + 1 : Nat) : Int) (a : Int) (b : Int)) r ∧ First (ccViol l) l.length r := by
          intro b hb hv
          obtain ⟨r, hr, hf⟩ := ih (a + 1) (by omega) (by omega) (fun a' b' x y z w => by
            by_cases e : a' = a
            · subst e; exact hv b' y (by omega)
            · exact h3 a' b' x y z (by omega))
          refine ⟨r, Ev.step (fun k => by rw [spec_CoordinateClash.l2]) ?_, hf⟩
          refine ev_neg (by omega) ?_
          rw [wadd1 (by omega)]
          exact hr
        intro d'
        induction d' with
        | zero => intro b g1 g2 g3; exact past b (by omega) g3
        | succ d' ih' =>
          intro b g1 g2 g3
          by_cases hb : b < l.length + 1
          · obtain ⟨va, hva⟩ : ∃ v, Box (l.getD (a - 1) 0 = v) := ⟨_, ⟨rfl⟩⟩
            obtain ⟨vb, hvb⟩ : ∃ v, Box (l.getD (b - 1) 0 = v) := ⟨_, ⟨rfl⟩⟩
            have ia := hin (a - 1) (by omega)
            rw [hva.out] at ia
            have ib := hin (b - 1) (by omega)
            rw [hvb.out] at ib
            have next : Box (¬ ccViol l a b → ∃ r, Ev (fun k => spec_CoordinateClash.l2 k l ((l.length + 1 : Nat) : Int) (a : Int) (wrap64 ((b : Int) + 1))) r ∧ First (ccViol l) l.length r) := Box.mk <| by
              intro hv
              rw [wadd1 (by omega)]
              exact ih' (b + 1) (by omega) (by omega) (fun b' x y => by
                by_cases e : b' = b
                · subst e; exact hv
                · exact g3 b' x (by omega))
            have found : Box (ccViol l a b → First (ccViol l) l.length ((a : Int), (b : Int), true)) := Box.mk fun hv => .inr ⟨a, b, h1, g1, by omega, hv, rfl, fun a' b' x y z w => by
              rcases w with w | ⟨w, w2⟩
              · exact h3 a' b' x y z w
              · subst w; exact g3 b' y w2⟩
            have e1 := Box.mk (wsub1 (a := a) (by omega) (by omega))
            have e2 := Box.mk (wsub1 (a := b) (by omega) (by omega))
            have e3 := Box.mk (waddn (a := a) (b := b) (by omega) (by omega))
            have e4 := Box.mk (wsub1 (a := a + b) (by omega) (by omega))
            have e5 : Box (wrap64 (va + vb) = va + vb) := Box.mk (w64 (by omega) (by omega))
            have e6 : Box (wrap64 (va + vb + 1) = va + vb + 1) := Box.mk (w64 (by omega) (by omega))
            by_cases c1 : a + b < l.length + 1
            · obtain ⟨vs, hvs⟩ : ∃ v, Box (l.getD (a + b - 1) 0 = v) := ⟨_, ⟨rfl⟩⟩
              by_cases c2 : va + vb < vs
              · refine ⟨_, Ev.step (fun k => by rw [spec_CoordinateClash.l2]) ?_, found.out (.inl ⟨c1, by rw [hva.out, hvb.out, hvs.out]; exact c2⟩)⟩
                simp only [e1.out, e2.out, e3.out, e4.out, rd_nat, hva.out, hvb.out, hvs.out, e5.out]
                exact ev_pos (by omega) (ev_pos (by omega) (ev_pos (by omega) (ev_pos (by omega) (ev_pos (by omega) (ev_pos (by omega) (ev_pos (by omega) (ev_pos (by omega) (ev_pos c2 (Ev.now _)))))))))
              · obtain ⟨r, hr, hf⟩ := next.out (fun hv => by
                  rcases hv with ⟨_, h⟩ | ⟨h, _⟩
                  · rw [hva.out, hvb.out, hvs.out] at h; exact c2 h
                  · omega)
                refine ⟨r, Ev.step (fun k => by rw [spec_CoordinateClash.l2]) ?_, hf⟩
                simp only [e1.out, e2.out, e3.out, e4.out, rd_nat, hva.out, hvb.out, hvs.out, e5.out]
                exact ev_pos (by omega) (ev_pos (by omega) (ev_pos (by omega) (ev_pos (by omega) (ev_pos (by omega) (ev_pos (by omega) (ev_pos (by omega) (ev_pos (by omega) (ev_neg c2 (ev_neg (by omega) hr)))))))))
            · by_cases c3 : a + b > l.length + 1
              · have e7 : Box (wrap64 (((a + b : Nat) : Int) - ((l.length + 1 : Nat) : Int)) = ((a + b - (l.length + 1) : Nat) : Int)) := Box.mk (by rw [w64 (by omega) (by omega)]; omega)
                have e8 : Box (wrap64 (((a + b - (l.length + 1) : Nat) : Int) - 1) = ((a + b - (l.length + 1) - 1 : Nat) : Int)) := Box.mk (by rw [w64 (by omega) (by omega)]; omega)
                obtain ⟨vs, hvs⟩ : ∃ v, Box (l.getD (a + b - (l.length + 1) - 1) 0 = v) := ⟨_, ⟨rfl⟩⟩
                by_cases c4 : va + vb + 1 < vs
                · refine ⟨_, Ev.step (fun k => by rw [spec_CoordinateClash.l2]) ?_, found.out (.inr ⟨c3, by rw [hva.out, hvb.out, hvs.out]; exact c4⟩)⟩
                  simp only [e1.out, e2.out, e3.out, e4.out, e7.out, e8.out, rd_nat, hva.out, hvb.out, hvs.out, e5.out, e6.out]
                  exact ev_pos (by omega) (ev_pos (by omega) (ev_pos (by omega) (ev_pos (by omega) (ev_pos (by omega) (ev_neg (by omega) (ev_pos (by omega) (ev_pos (by omega) (ev_pos (by omega) (ev_pos c4 (Ev.now _))))))))))
                · obtain ⟨r, hr, hf⟩ := next.out (fun hv => by
                    rcases hv with ⟨h, _⟩ | ⟨_, h⟩
                    · exact c1 h
                    · rw [hva.out, hvb.out, hvs.out] at h; exact c4 h)
                  refine ⟨r, Ev.step (fun k => by rw [spec_CoordinateClash.l2]) ?_, hf⟩
                  simp only [e1.out, e2.out, e3.out, e4.out, e7.out, e8.out, rd_nat, hva.out, hvb.out, hvs.out, e5.out, e6.out]
                  exact ev_pos (by omega) (ev_pos (by omega) (ev_pos (by omega) (ev_pos (by omega) (ev_pos (by omega) (ev_neg (by omega) (ev_pos (by omega) (ev_pos (by omega) (ev_pos (by omega) (ev_neg c4 hr)))))))))
              · obtain ⟨r, hr, hf⟩ := next.out (fun hv => by
                  rcases hv with ⟨h, _⟩ | ⟨h, _⟩
                  · exact c1 h
                  · exact c3 h)
                refine ⟨r, Ev.step (fun k => by rw [spec_CoordinateClash.l2]) ?_, hf⟩
                simp only [e1.out, e2.out, e3.out, e4.out, rd_nat, hva.out, hvb.out, e5.out, e6.out]
                exact ev_pos (by omega) (ev_pos (by omega) (ev_pos (by omega) (ev_pos (by omega) (ev_pos (by omega) (ev_neg (by omega) (ev_neg (by omega) hr))))))
          · exact past b (by omega) g3
      obtain ⟨r, hr, hf⟩ := inner (l.length + 1) a (by omega) (by omega) (fun b' x y => by omega)
      refine ⟨r, Ev.step (fun k => by rw [spec_CoordinateClash.l1]) ?_, hf⟩
      exact ev_pos (by omega) hr
    · refine ⟨_, Ev.step (fun k => by rw [spec_CoordinateClash.l1]) ?_, .inl ⟨rfl, fun a' b' x y z => h3 a' b' x y z (by omega)⟩⟩
      exact ev_neg (by omega) (Ev.now _)
theorem spec_CoordinateClash.l0_ev (l : List Int) (hl : l.length < 1000000000) : ∀ (d j : Nat), j + d = l.length → (∀ i, i < j → 1 ≤ l.getD i 0 ∧ l.getD i 0 ≤ 200) → ∃ r, Ev (fun k => spec_CoordinateClash.l0 k l ((l.length + 1 : Nat) : Int) ((j + 1 : Nat) : Int)) r ∧ CC l r := by
  intro d
  induction d with
  | zero =>
    intro j h1 h2
    obtain ⟨r, hr, hf⟩ := spec_CoordinateClash.l1_ev l hl (fun i hi => h2 i (by omega)) l.length 1 (by omega) (by omega) (fun a' b' _ _ _ _ => by omega)
    refine ⟨r, Ev.step (fun k => by rw [spec_CoordinateClash.l0]) ?_, .inr ⟨fun i hi => h2 i (by omega), hf⟩⟩
    exact ev_neg (by omega) hr
  | succ d ih =>
    intro j h1 h2
    have e1 : Box (wrap64 (((j + 1 : Nat) : Int) - 1) = (j : Int)) := Box.mk (by rw [w64 (by omega) (by omega)]; omega)
    by_cases c : 1 ≤ l.getD j 0 ∧ l.getD j 0 ≤ 200
    · obtain ⟨r, hr, hf⟩ := ih (j + 1) (by omega) (fun i hi => by
        by_cases e : i = j
        · subst e; exact c
        · exact h2 i (by omega))
      refine ⟨r, Ev.step (fun k => by rw [spec_CoordinateClash.l0]) ?_, hf⟩
      simp only [e1.out, rd_nat, spec_l1In.eq, Option.bind_some, decide_eq_true c]
      rw [wadd1 (by omega)]
      exact ev_pos (by omega) (ev_pos (by omega) (ev_pos (by omega) (ev_pos trivial hr)))
    · refine ⟨_, Ev.step (fun k => by rw [spec_CoordinateClash.l0]) ?_, .inl ⟨j, by omega, c, h2, rfl⟩⟩
      simp only [e1.out, rd_nat, spec_l1In.eq, Option.bind_some, decide_eq_false c]
      exact ev_pos (by omega) (ev_pos (by omega) (ev_pos (by omega) (ev_neg (by simp) (Ev.now _))))
theorem spec_CoordinateClash.ev (l : List Int) (hl : l.length < 1000000000) : ∃ r, Ev (fun k => spec_CoordinateClash.f k l) r ∧ CC l r := by
  unfold spec_CoordinateClash.f
  rw [wadd1 (by omega)]
  exact spec_CoordinateClash.l0_ev l hl l.length 0 (by omega) (fun i hi => by omega)

/-! impl_within -/
theorem impl_within.eq (a b c : Int) : impl_within.f a b c = some (decide (b ≤ a ∧ a ≤ c)) := by
  unfold impl_within.f
  by_cases h : b ≤ a <;> simp [h]

/-! impl_CoordinateClash -/
set_option maxHeartbeats 4000000 in
theorem impl_CoordinateClash.l1_ev (l : List Int) (hl : l.length < 1000000000) (hin : ∀ j, j < l.length → 1 ≤ l.getD j 0 ∧ l.getD j 0 ≤ 200) : ∀ (d a : Nat), 1 ≤ a → l.length + 1 ≤ a + d → (∀ a' b', 1 ≤ a' → a' ≤ b' → b' ≤ l.length → a' < a → ¬ ccViol l a' b') → ∃ r, Ev (fun k => impl_CoordinateClash.l1 k l ((l.length + 1 : Nat) : Int) (a : Int)) r ∧ First (ccViol l) l.length r := by
  intro d
  induction d with
  | zero =>
    intro a h1 h2 h3
    refine ⟨_, Ev.step (fun k => by rw [impl_CoordinateClash.l1]) ?_, .inl ⟨rfl, fun a' b' x y z => h3 a' b' x y z (by omega)⟩⟩
    exact ev_neg (by omega) (Ev.now _)
  | succ d ih =>
    intro a h1 h2 h3
    by_cases ha : a < l.length + 1
    · have inner : ∀ (d' b : Nat), a ≤ b → l.length + 1 ≤ b + d' → (∀ b', a ≤ b' → b' < b → ¬ ccViol l a b') → ∃ r, Ev (fun k => impl_CoordinateClash.l2 k l ((l.length + 1 : Nat) : Int) (a : Int) (b : Int)) r ∧ First (ccViol l) l.length r := by
        have past : ∀ b, l.length + 1 ≤ b → (∀ b', a ≤ b' → b' < b → ¬ ccViol l a b') → ∃ r, Ev (fun k => impl_CoordinateClash.l2 k l ((l.length + 1 : Nat) : Int) (a : Int) (b : Int)) r ∧ First (ccViol l) l.length r := by
          intro b hb hv
          obtain ⟨r, hr, hf⟩ := ih (a + 1) (by omega) (by omega) (fun a' b' x y z w => by
            by_cases e : a' = a
            · subst e; exact hv b' y (by omega)
            · exact h3 a' b' x y z (by omega))
          refine ⟨r, Ev.step (fun k => by rw [impl_CoordinateClash.l2]) ?_, hf⟩
          refine ev_neg (by omega) ?_
          rw [wadd1 (by omega)]
          exact hr
        intro d'
        induction d' with
        | zero => intro b g1 g2 g3; exact past b (by omega) g3
        | succ d' ih' =>
          intro b g1 g2 g3
          by_cases hb : b < l.length + 1
          · obtain ⟨va, hva⟩ : ∃ v, Box (l.getD (a - 1) 0 = v) := ⟨_, ⟨rfl⟩⟩
            obtain ⟨vb, hvb⟩ : ∃ v, Box (l.getD (b - 1) 0 = v) := ⟨_, ⟨rfl⟩⟩
            have ia := hin (a - 1) (by omega)
            rw [hva.out] at ia
            have ib := hin (b - 1) (by omega)
            rw [hvb.out] at ib
            have next : Box (¬ ccViol l a b → ∃ r, Ev (fun k => impl_CoordinateClash.l2 k l ((l.length + 1 : Nat) : Int) (a : Int) (wrap64 ((b : Int) + 1))) r ∧ First (ccViol l) l.length r) := Box.mk <| by
              intro hv
              rw [wadd1 (by omega)]
              exact ih' (b + 1) (by omega) (by omega) (fun b' x y => by
                by_cases e : b' = b
                · subst e; exact hv
                · exact g3 b' x (by omega))
            have found : Box (ccViol l a b → First (ccViol l) l.length ((a : Int), (b : Int), true)) := Box.mk fun hv => .inr ⟨a, b, h1, g1, by omega, hv, rfl, fun a' b' x y z w => by
              rcases w with w | ⟨w, w2⟩
              · exact h3 a' b' x y z w
              · subst w; exact g3 b' y w2⟩
            have e1 := Box.mk (wsub1 (a := a) (by omega) (by omega))
            have e2 := Box.mk (wsub1 (a := b) (by omega) (by omega))
            have e3 := Box.mk (waddn (a := a) (b := b) (by omega) (by omega))
            have e4 := Box.mk (wsub1 (a := a + b) (by omega) (by omega))
            have e5 : Box (wrap64 (va + vb) = va + vb) := Box.mk (w64 (by omega) (by omega))
            have e6 : Box (wrap64 (va + vb + 1) = va + vb + 1) := Box.mk (w64 (by omega) (by omega))
            by_cases c1 : a + b < l.length + 1
            · obtain ⟨vs, hvs⟩ : ∃ v, Box (l.getD (a + b - 1) 0 = v) := ⟨_, ⟨rfl⟩⟩
              by_cases c2 : va + vb < vs
              · refine ⟨_, Ev.step (fun k => by rw [impl_CoordinateClash.l2]) ?_, found.out (.inl ⟨c1, by rw [hva.out, hvb.out, hvs.out]; exact c2⟩)⟩
                simp only [e1.out, e2.out, e3.out, e4.out, rd_nat, hva.out, hvb.out, hvs.out, e5.out]
                exact ev_pos (by omega) (ev_pos (by omega) (ev_pos (by omega) (ev_pos (by omega) (ev_pos (by omega) (ev_pos (by omega) (ev_pos (by omega) (ev_pos (by omega) (ev_pos c2 (Ev.now _)))))))))
              · obtain ⟨r, hr, hf⟩ := next.out (fun hv => by
                  rcases hv with ⟨_, h⟩ | ⟨h, _⟩
                  · rw [hva.out, hvb.out, hvs.out] at h; exact c2 h
                  · omega)
                refine ⟨r, Ev.step (fun k => by rw [impl_CoordinateClash.l2]) ?_, hf⟩
                simp only [e1.out, e2.out, e3.out, e4.out, rd_nat, hva.out, hvb.out, hvs.out, e5.out]
                exact ev_pos (by omega) (ev_pos (by omega) (ev_pos (by omega) (ev_pos (by omega) (ev_pos (by omega) (ev_pos (by omega) (ev_pos (by omega) (ev_pos (by omega) (ev_neg c2 (ev_neg (by omega) hr)))))))))
            · by_cases c3 : a + b > l.length + 1
              · have e7 : Box (wrap64 (((a + b : Nat) : Int) - ((l.length + 1 : Nat) : Int)) = ((a + b - (l.length + 1) : Nat) : Int)) := Box.mk (by rw [w64 (by omega) (by omega)]; omega)
                have e8 : Box (wrap64 (((a + b - (l.length + 1) : Nat) : Int) - 1) = ((a + b - (l.length + 1) - 1 : Nat) : Int)) := Box.mk (by rw [w64 (by omega) (by omega)]; omega)
                obtain ⟨vs, hvs⟩ : ∃ v, Box (l.getD (a + b - (l.length + 1) - 1) 0 = v) := ⟨_, ⟨rfl⟩⟩
                by_cases c4 : va + vb + 1 < vs
                · refine ⟨_, Ev.step (fun k => by rw [impl_CoordinateClash.l2]) ?_, found.out (.inr ⟨c3, by rw [hva.out, hvb.out, hvs.out]; exact c4⟩)⟩
                  simp only [e1.out, e2.out, e3.out, e4.out, e7.out, e8.out, rd_nat, hva.out, hvb.out, hvs.out, e5.out, e6.out]
                  exact ev_pos (by omega) (ev_pos (by omega) (ev_pos (by omega) (ev_pos (by omega) (ev_pos (by omega) (ev_neg (by omega) (ev_pos (by omega) (ev_pos (by omega) (ev_pos (by omega) (ev_pos c4 (Ev.now _))))))))))
                · obtain ⟨r, hr, hf⟩ := next.out (fun hv => by
                    rcases hv with ⟨h, _⟩ | ⟨_, h⟩
                    · exact c1 h
                    · rw [hva.out, hvb.out, hvs.out] at h; exact c4 h)
                  refine ⟨r, Ev.step (fun k => by rw [impl_CoordinateClash.l2]) ?_, hf⟩
                  simp only [e1.out, e2.out, e3.out, e4.out, e7.out, e8.out, rd_nat, hva.out, hvb.out, hvs.out, e5.out, e6.out]
                  exact ev_pos (by omega) (ev_pos (by omega) (ev_pos (by omega) (ev_pos (by omega) (ev_pos (by omega) (ev_neg (by omega) (ev_pos (by omega) (ev_pos (by omega) (ev_pos (by omega) (ev_neg c4 hr)))))))))
              · obtain ⟨r, hr, hf⟩ := next.out (fun hv => by
                  rcases hv with ⟨h, _⟩ | ⟨h, _⟩
                  · exact c1 h
                  · exact c3 h)
                refine ⟨r, Ev.step (fun k => by rw [impl_CoordinateClash.l2]) ?_, hf⟩
                simp only [e1.out, e2.out, e3.out, e4.out, rd_nat, hva.out, hvb.out, e5.out, e6.out]
                exact ev_pos (by omega) (ev_pos (by omega) (ev_pos (by omega) (ev_pos (by omega) (ev_pos (by omega) (ev_neg (by omega) (ev_neg (by omega) hr))))))
          · exact past b (by omega) g3
      obtain ⟨r, hr, hf⟩ := inner (l.length + 1) a (by omega) (by omega) (fun b' x y => by omega)
      refine ⟨r, Ev.step (fun k => by rw [impl_CoordinateClash.l1]) ?_, hf⟩
      exact ev_pos (by omega) hr
    · refine ⟨_, Ev.step (fun k => by rw [impl_CoordinateClash.l1]) ?_, .inl ⟨rfl, fun a' b' x y z => h3 a' b' x y z (by omega)⟩⟩
      exact ev_neg (by omega) (Ev.now _)
theorem impl_CoordinateClash.l0_ev (l : List Int) (hl : l.length < 1000000000) : ∀ (d j : Nat), j + d = l.length → (∀ i, i < j → 1 ≤ l.getD i 0 ∧ l.getD i 0 ≤ 200) → ∃ r, Ev (fun k => impl_CoordinateClash.l0 k l l (l.length : Int) (j : Int)) r ∧ CC l r := by
  intro d
  induction d with
  | zero =>
    intro j h1 h2
    obtain ⟨r, hr, hf⟩ := impl_CoordinateClash.l1_ev l hl (fun i hi => h2 i (by omega)) l.length 1 (by omega) (by omega) (fun a' b' _ _ _ _ => by omega)
    refine ⟨r, Ev.step (fun k => by rw [impl_CoordinateClash.l0]) ?_, .inr ⟨fun i hi => h2 i (by omega), hf⟩⟩
    refine ev_neg (by omega) ?_
    rw [wadd1 (by omega)]
    exact hr
  | succ d ih =>
    intro j h1 h2
    by_cases c : 1 ≤ l.getD j 0 ∧ l.getD j 0 ≤ 200
    · obtain ⟨r, hr, hf⟩ := ih (j + 1) (by omega) (fun i hi => by
        by_cases e : i = j
        · subst e; exact c
        · exact h2 i (by omega))
      refine ⟨r, Ev.step (fun k => by rw [impl_CoordinateClash.l0]) ?_, hf⟩
      simp only [rd_nat, impl_within.eq, Option.bind_some, decide_eq_true c]
      rw [wadd1 (by omega)]
      exact ev_pos (by omega) (ev_pos (by omega) (ev_pos (by omega) (ev_pos trivial hr)))
    · refine ⟨_, Ev.step (fun k => by rw [impl_CoordinateClash.l0]) ?_, .inl ⟨j, by omega, c, h2, rfl⟩⟩
      simp only [rd_nat, impl_within.eq, Option.bind_some, decide_eq_false c]
      rw [wadd1 (by omega)]
      exact ev_pos (by omega) (ev_pos (by omega) (ev_pos (by omega) (ev_neg (by simp) (Ev.now _))))
theorem impl_CoordinateClash.ev (l : List Int) (hl : l.length < 1000000000) : ∃ r, Ev (fun k => impl_CoordinateClash.f k l) r ∧ CC l r := by
  unfold impl_CoordinateClash.f
  exact impl_CoordinateClash.l0_ev l hl l.length 0 (by omega) (fun i hi => by omega)

/-! laws_eqClash -/
theorem laws_eqClash.eq (a b : Int) : laws_eqClash.f a b a b = some true := by
  unfold laws_eqClash.f
  rw [if_pos rfl, if_pos rfl]

end Go.Proofs.Ytdccejocahnjfaa.PFnExactCoordinateClash
namespace Go.Proofs.Ytdccejocahnjfaa.Pure
open Go.RowKit Go.Proofs.YtdccejocahnjfaaW.PrintWords Go.Proofs.YtdccejocahnjfaaW.PrintLast Go.Proofs.YtdccejocahnjfaaW.PrintMore Go.Proofs.YtdccejocahnjfaaM
set_option linter.unusedVariables false
set_option linter.unusedSimpArgs false
open Go.Proofs.Ytdccejocahnjfaa.PFnExactCoordinateClash
theorem FnExactCoordinateClash : laws_FnExactCoordinateClash.Pure := by
  intro l0 hl h8 hw
  refine Ev.rounds ?_
  unfold laws_FnExactCoordinateClash.f
  by_cases h : (l0.length : Int) > 1048576
  · exact ev_pos h (Ev.now _)
  · refine ev_neg h ?_
    have hx : l0.length ≤ 1048576 := by omega
    obtain ⟨r, hr, hv⟩ := spec_CoordinateClash.ev l0 (by omega)
    obtain ⟨q, hq, hv'⟩ := impl_CoordinateClash.ev l0 (by omega)
    obtain rfl := CC.unique hv hv'
    refine Ev.bind (laws_toIntS.ev l0 hx) ?_
    refine Ev.bind hr ?_
    refine Ev.bind (laws_toIntS.ev l0 hx) ?_
    refine Ev.bind hq ?_
    simp only [laws_eqClash.eq, Option.bind_some]
    refine ev_pos trivial ?_
    refine Ev.step (fun k => by rw [laws_FnExactCoordinateClash.j0]) ?_
    refine ev_neg (by simp) ?_
    refine Ev.bind (laws_toIntS.ev l0 hx) ?_
    refine Ev.bind (laws_eqIntS.ev l0 l0 (by omega)) ?_
    rw [B_true rfl]
    exact ev_pos rfl (Ev.now _)

end Go.Proofs.Ytdccejocahnjfaa.Pure
