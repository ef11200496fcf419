/- The program's GapClash answers what the reference's answers, for every list (lists of more than 1048576 numbers are let pass by the law itself). No further condition. -/
import Derived.Test.YtkikaiebmdadeaaPFnExactGapClashx1
import Derived.Test.YtkikaiebmdadeaaPFnExactGapClashx2
import Derived.Test.YtkikaiebmdadeaaPFnExactGapClashx3
import Derived.Test.YtkikaiebmdadeaaPFnExactGapClashx4
import Derived.Test.YtkikaiebmdadeaaPFnExactGapClashx5
import Derived.Test.YtkikaiebmdadeaaM0
namespace Go.Proofs.Ytkikaiebmdadeaa.PFnExactGapClash
open Go.RowKit Go.Proofs.YtkikaiebmdadeaaW.PrintWords Go.Proofs.YtkikaiebmdadeaaW.PrintLast Go.Proofs.YtkikaiebmdadeaaW.PrintMore Go.Proofs.YtkikaiebmdadeaaM
set_option linter.unusedVariables false
set_option linter.unusedSimpArgs false
/-! laws_toIntS -/
theorem laws_toIntS.l0_ev (xs : List Int) (hx : xs.length ≤ 1048576) : ∀ (d j : Nat) (acc : List Int), j + d = xs.length → acc.length = xs.length → acc.take j = xs.take j → Ev (fun k => laws_toIntS.l0 k xs acc (j : Int)) xs := by
  intro d
  induction d with
  | zero =>
    intro j acc h1 h2 h3
    have e : acc = xs := by rw [← List.take_of_length_le (l := acc) (i := j) (by omega), h3, List.take_of_length_le (by omega)]
    subst e
    refine Ev.step (fun k => by rw [laws_toIntS.l0]) ?_
    refine ev_neg (by omega) (Ev.now _)
  | succ d ih =>
    intro j acc h1 h2 h3
    refine Ev.step (fun k => by rw [laws_toIntS.l0]) ?_
    refine ev_pos (by omega) (ev_pos (by omega) (ev_pos (by omega) ?_))
    rw [wadd1 (by omega)]
    refine ih (j + 1) _ (by omega) (by simp; omega) ?_
    rw [Int.toNat_natCast, rd_nat]
    exact set_take acc xs j _ (by omega) (by omega) h3 (getD_get (by omega)).symm
theorem laws_toIntS.ev (xs : List Int) (hx : xs.length ≤ 1048576) : Ev (fun k => laws_toIntS.f k xs) xs := by
  unfold laws_toIntS.f
  refine ev_pos (by omega) (ev_pos (by omega) ?_)
  rw [Int.toNat_natCast]
  exact laws_toIntS.l0_ev xs hx xs.length 0 _ (by omega) (by simp) (by simp)

/-! laws_eqIntS -/
theorem laws_eqIntS.l0_ev (x y : List Int) (hl : x.length = y.length) (hx : x.length < 4611686018427387904) : ∀ (d j : Nat), j + d = x.length → Ev (fun k => laws_eqIntS.l0 k x y (j : Int)) (B (x.drop j = y.drop j)) := by
  intro d
  induction d with
  | zero =>
    intro j h1
    refine Ev.step (fun k => by rw [laws_eqIntS.l0]) ?_
    rw [B_true (by rw [List.drop_of_length_le (by omega), List.drop_of_length_le (by omega)])]
    exact ev_neg (by omega) (Ev.now _)
  | succ d ih =>
    intro j h1
    have hj : j < x.length := by omega
    have hj' : j < y.length := by omega
    refine Ev.step (fun k => by rw [laws_eqIntS.l0]) ?_
    refine ev_pos (by omega) (ev_pos (by omega) (ev_pos (by omega) ?_))
    rw [wadd1 (by omega), rd_nat, rd_nat, getD_get hj, getD_get hj', List.drop_eq_getElem_cons hj, List.drop_eq_getElem_cons hj']
    by_cases e : x[j] = y[j]
    · refine ev_pos e ?_
      have := ih (j + 1) (by omega)
      rw [B_congr (q := x.drop (j + 1) = y.drop (j + 1)) (by simp only [e, List.cons.injEq, true_and])]
      exact this
    · refine ev_neg e ?_
      rw [B_false (fun h => e (List.cons.inj h).1)]
      exact Ev.now _
theorem laws_eqIntS.ev (x y : List Int) (hx : x.length < 4611686018427387904) : Ev (fun k => laws_eqIntS.f k x y) (B (x = y)) := by
  unfold laws_eqIntS.f
  by_cases e : x.length = y.length
  · refine ev_pos (by omega) ?_
    exact laws_eqIntS.l0_ev x y e hx x.length 0 (by omega)
  · refine ev_neg (by omega) ?_
    rw [B_false (fun h => e (by rw [h]))]
    exact Ev.now _

/-! spec_IsAscending -/
theorem spec_IsAscending.l0_ev (l : List Int) (hl : l.length < 4611686018427387904) : ∀ (d j : Nat), l.length ≤ j + 1 + d → Ev (fun k => spec_IsAscending.l0 k l ((j + 1 : Nat) : Int)) (B (∀ i, j ≤ i → i + 1 < l.length → l.getD i 0 < l.getD (i + 1) 0)) := by
  intro d
  induction d with
  | zero =>
    intro j h1
    refine Ev.step (fun k => by rw [spec_IsAscending.l0]) ?_
    rw [B_true (fun i _ _ => by omega)]
    exact ev_neg (by omega) (Ev.now _)
  | succ d ih =>
    intro j h1
    refine Ev.step (fun k => by rw [spec_IsAscending.l0]) ?_
    by_cases hj : j + 1 < l.length
    · have e1 : wrap64 (((j + 1 : Nat) : Int) - 1) = (j : Int) := by rw [w64 (by omega) (by omega)]; omega
      rw [e1, wadd1 (by omega), rd_nat, rd_nat]
      refine ev_pos (by omega) (ev_pos (by omega) (ev_pos (by omega) (ev_pos (by omega) ?_)))
      by_cases e : l.getD j 0 ≥ l.getD (j + 1) 0
      · refine ev_pos e ?_
        rw [B_false (fun h => by have := h j (by omega) hj; omega)]
        exact Ev.now _
      · refine ev_neg e ?_
        rw [B_congr (q := ∀ i, j + 1 ≤ i → i + 1 < l.length → l.getD i 0 < l.getD (i + 1) 0) ⟨fun h i hi => h i (by omega), fun h i hi h2 => by
          by_cases e3 : i = j
          · subst e3; omega
          · exact h i (by omega) h2⟩]
        exact ih (j + 1) (by omega)
    · rw [B_true (fun i _ _ => by omega)]
      exact ev_neg (by omega) (Ev.now _)
theorem spec_IsAscending.ev (l : List Int) (hl : l.length < 4611686018427387904) : Ev (fun k => spec_IsAscending.f k l) (B (Asc l)) := by
  unfold spec_IsAscending.f
  rw [B_congr (p := Asc l) (q := ∀ i, 0 ≤ i → i + 1 < l.length → l.getD i 0 < l.getD (i + 1) 0) ⟨fun h i _ => h i, fun h i => h i (by omega)⟩]
  exact spec_IsAscending.l0_ev l hl l.length 0 (by omega)

/-! spec_l1In -/
theorem spec_l1In.eq (a b c : Int) : spec_l1In.f a b c = some (decide (b ≤ a ∧ a ≤ c)) := by
  unfold spec_l1In.f
  by_cases h : b ≤ a <;> simp [h]

/-! spec_l8Gaps -/
theorem spec_l8Gaps.l0_ev (l : List Int) (hl : l.length < 4611686018427387904) : ∀ (d j : Nat), j + d = l.length → Ev (fun k => spec_l8Gaps.l0 k l (j : Int)) (B ((∀ x ∈ l.drop j, 1 ≤ x ∧ x ≤ 199) ∧ Asc l)) := by
  intro d
  induction d with
  | zero =>
    intro j h1
    refine Ev.step (fun k => by rw [spec_l8Gaps.l0]) ?_
    rw [B_congr (q := Asc l) (by rw [List.drop_of_length_le (by omega)]; simp)]
    exact ev_neg (by omega) (Ev.bind (spec_IsAscending.ev l hl) (Ev.now _))
  | succ d ih =>
    intro j h1
    have hj : j < l.length := by omega
    refine Ev.step (fun k => by rw [spec_l8Gaps.l0]) ?_
    rw [wadd1 (by omega), rd_nat, getD_get hj, List.drop_eq_getElem_cons hj, spec_l1In.eq]
    simp only [Option.bind_some]
    refine ev_pos (by omega) (ev_pos (by omega) ?_)
    by_cases e : 1 ≤ l[j] ∧ l[j] ≤ 199
    · refine ev_pos (decide_eq_true e) ?_
      rw [B_congr (q := (∀ x ∈ l.drop (j + 1), 1 ≤ x ∧ x ≤ 199) ∧ Asc l) (by simp only [List.forall_mem_cons, e.1, e.2, and_self, true_and])]
      exact ih (j + 1) (by omega)
    · refine ev_neg (by simpa using e) ?_
      rw [B_false (fun h => e (h.1 _ List.mem_cons_self))]
      exact Ev.now _
theorem spec_l8Gaps.ev (l : List Int) (hl : l.length < 4611686018427387904) : Ev (fun k => spec_l8Gaps.f k l) (B (GapL l)) := by
  unfold spec_l8Gaps.f
  rw [B_congr (q := (∀ x ∈ l.drop 0, 1 ≤ x ∧ x ≤ 199) ∧ Asc l) (by unfold GapL; rw [List.drop_zero]; exact And.comm)]
  exact spec_l8Gaps.l0_ev l hl l.length 0 (by omega)

/-! spec_GapClash -/
set_option maxHeartbeats 4000000 in
theorem spec_GapClash.l1_ev (l : List Int) (T : List Bool) (n N : Nat) (hn : n ≤ 199) (hN : n < N) (hT : Marked T N (· ∈ l)) (htop : ∀ x ∈ l, x ≤ (n : Int)) : ∀ (d a : Nat), 1 ≤ a → n + 1 ≤ a + d → (∀ a' b', 1 ≤ a' → a' ≤ b' → b' ≤ n → a' < a → ¬ gcViol l a' b') → ∃ r, Ev (fun k => spec_GapClash.l1 k (n : Int) T (a : Int)) r ∧ First (gcViol l) n r := by
  have hTl := hT.1
  intro d
  induction d with
  | zero =>
    intro a h1 h2 h3
    refine ⟨_, Ev.step (fun k => by rw [spec_GapClash.l1]) ?_, .inl ⟨rfl, fun a' b' x y z => h3 a' b' x y z (by omega)⟩⟩
    exact ev_neg (by omega) (Ev.now _)
  | succ d ih =>
    intro a h1 h2 h3
    by_cases ha : a < n + 1
    · have inner : ∀ (d' b : Nat), a ≤ b → b ≤ n + 1 → n + 1 ≤ b + d' → (∀ b', a ≤ b' → b' < b → ¬ gcViol l a b') → ∃ r, Ev (fun k => spec_GapClash.l2 k (n : Int) T (a : Int) (b : Int)) r ∧ First (gcViol l) n r := by
        have done : ∀ (b : Nat), (∀ b', a ≤ b' → b' ≤ n → ¬ gcViol l a b') → ∃ r, Ev (fun k => spec_GapClash.j4 k (n : Int) T (a : Int) (b : Int) false) r ∧ First (gcViol l) n r := by
          intro b hv
          obtain ⟨r, hr, hf⟩ := ih (a + 1) (by omega) (by omega) (fun a' b' x y z w => by
            by_cases e : a' = a
            · subst e; exact hv b' y z
            · exact h3 a' b' x y z (by omega))
          refine ⟨r, Ev.step (fun k => by rw [spec_GapClash.j4]) ?_, hf⟩
          refine ev_neg (by simp) ?_
          rw [wadd1 (by omega)]
          exact hr
        have past : ∀ b : Nat, n < a + b → b < 1000 → (∀ b', a ≤ b' → b' < b → ¬ gcViol l a b') → ∃ r, Ev (fun k => spec_GapClash.l2 k (n : Int) T (a : Int) (b : Int)) r ∧ First (gcViol l) n r := by
          intro b hb hb2 hv
          obtain ⟨r, hr, hf⟩ := done b (fun b' x y hv' => by
            by_cases e : b' < b
            · exact hv b' x e hv'
            · have := htop _ hv'.2.2; omega)
          refine ⟨r, Ev.step (fun k => by rw [spec_GapClash.l2]) ?_, hf⟩
          refine ev_neg ?_ hr
          rw [w64 (by omega) (by omega)]; omega
        intro d'
        induction d' with
        | zero => intro b g1 g0 g2 g3; exact past b (by omega) (by omega) g3
        | succ d' ih' =>
          intro b g1 g0 g2 g3
          by_cases hb : a + b ≤ n
          · have e3 := Box.mk (waddn (a := a) (b := b) (by omega) (by omega))
            have next : Box (¬ gcViol l a b → ∃ r, Ev (fun k => spec_GapClash.l2 k (n : Int) T (a : Int) (wrap64 ((b : Int) + 1))) r ∧ First (gcViol l) n r) := Box.mk <| by
              intro hv
              rw [wadd1 (by omega)]
              exact ih' (b + 1) (by omega) (by omega) (by omega) (fun b' x y => by
                by_cases e : b' = b
                · subst e; exact hv
                · exact g3 b' x (by omega))
            have found : Box (gcViol l a b → First (gcViol l) n ((a : Int), (b : Int), true)) := Box.mk fun hv => .inr ⟨a, b, h1, g1, by omega, hv, rfl, fun a' b' x y z w => by
              rcases w with w | ⟨w, w2⟩
              · exact h3 a' b' x y z w
              · subst w; exact g3 b' y w2⟩
            by_cases ca : (a : Int) ∈ l
            · obtain ⟨r, hr, hf⟩ := done b (fun b' _ _ hv => hv.1 ca)
              refine ⟨r, Ev.step (fun k => by rw [spec_GapClash.l2]) ?_, hf⟩
              rw [e3.out, rdOf_nat, (hT.2 a (by omega)).2 ca]
              exact ev_pos (by omega) (ev_pos (by omega) (ev_pos (by omega) hr))
            · have ta : T.getD a false = false := by
                cases e : T.getD a false with
                | false => rfl
                | true => exact absurd ((hT.2 a (by omega)).1 e) ca
              by_cases cb : (b : Int) ∈ l
              · obtain ⟨r, hr, hf⟩ := next.out (fun hv => hv.2.1 cb)
                refine ⟨r, Ev.step (fun k => by rw [spec_GapClash.l2]) ?_, hf⟩
                rw [e3.out, rdOf_nat, ta]
                refine ev_pos (by omega) (ev_pos (by omega) (ev_pos (by omega) ?_))
                refine Ev.step (fun k => by rw [spec_GapClash.j4]) ?_
                rw [rdOf_nat, (hT.2 b (by omega)).2 cb]
                exact ev_pos rfl (ev_pos (by omega) (ev_pos (by omega) (ev_pos rfl hr)))
              · have tb : T.getD b false = false := by
                  cases e : T.getD b false with
                  | false => rfl
                  | true => exact absurd ((hT.2 b (by omega)).1 e) cb
                by_cases cs : ((a + b : Nat) : Int) ∈ l
                · refine ⟨_, Ev.step (fun k => by rw [spec_GapClash.l2]) ?_, found.out ⟨ca, cb, cs⟩⟩
                  rw [e3.out, rdOf_nat, ta]
                  refine ev_pos (by omega) (ev_pos (by omega) (ev_pos (by omega) ?_))
                  refine Ev.step (fun k => by rw [spec_GapClash.j4]) ?_
                  rw [e3.out, rdOf_nat, rdOf_nat, tb, (hT.2 (a + b) (by omega)).2 cs]
                  exact ev_pos rfl (ev_pos (by omega) (ev_pos (by omega) (ev_neg (by simp) (ev_pos (by omega) (ev_pos (by omega) (ev_pos rfl (Ev.now _)))))))
                · have ts : T.getD (a + b) false = false := by
                    cases e : T.getD (a + b) false with
                    | false => rfl
                    | true => exact absurd ((hT.2 (a + b) (by omega)).1 e) cs
                  obtain ⟨r, hr, hf⟩ := next.out (fun hv => cs hv.2.2)
                  refine ⟨r, Ev.step (fun k => by rw [spec_GapClash.l2]) ?_, hf⟩
                  rw [e3.out, rdOf_nat, ta]
                  refine ev_pos (by omega) (ev_pos (by omega) (ev_pos (by omega) ?_))
                  refine Ev.step (fun k => by rw [spec_GapClash.j4]) ?_
                  rw [e3.out, rdOf_nat, rdOf_nat, tb, ts]
                  exact ev_pos rfl (ev_pos (by omega) (ev_pos (by omega) (ev_neg (by simp) (ev_pos (by omega) (ev_pos (by omega) (ev_neg (by simp) hr))))))
          · exact past b (by omega) (by omega) g3
      obtain ⟨r, hr, hf⟩ := inner (n + 1) a (by omega) (by omega) (by omega) (fun b' x y => by omega)
      refine ⟨r, Ev.step (fun k => by rw [spec_GapClash.l1]) ?_, hf⟩
      exact ev_pos (by omega) hr
    · refine ⟨_, Ev.step (fun k => by rw [spec_GapClash.l1]) ?_, .inl ⟨rfl, fun a' b' x y z => h3 a' b' x y z (by omega)⟩⟩
      exact ev_neg (by omega) (Ev.now _)
theorem spec_GapClash.l0_ev (l : List Int) (hl : l.length < 4611686018427387904) (hg : GapL l) (n : Nat) (hn : n ≤ 199) (htop : ∀ x ∈ l, x ≤ (n : Int)) : ∀ (d j : Nat) (T : List Bool), j + d = l.length → Marked T (2 * n + 1) (· ∈ l.take j) → ∃ r, Ev (fun k => spec_GapClash.l0 k l (n : Int) T (j : Int)) r ∧ First (gcViol l) n r := by
  intro d
  induction d with
  | zero =>
    intro j T h1 h2
    rw [List.take_of_length_le (by omega)] at h2
    obtain ⟨r, hr, hf⟩ := spec_GapClash.l1_ev l T n (2 * n + 1) hn (by omega) h2 htop n 1 (by omega) (by omega) (fun a' b' _ _ _ _ => by omega)
    refine ⟨r, Ev.step (fun k => by rw [spec_GapClash.l0]) ?_, hf⟩
    exact ev_neg (by omega) hr
  | succ d ih =>
    intro j T h1 h2
    have hj : j < l.length := by omega
    have m1 := hg.2 _ (List.getElem_mem hj)
    have m2 := htop _ (List.getElem_mem hj)
    obtain ⟨r, hr, hf⟩ := ih (j + 1) (T.set (l[j]).toNat true) (by omega) (h2.step (by omega) (by omega) (fun y => by rw [List.take_succ_eq_append_getElem hj, List.mem_append, List.mem_singleton]))
    refine ⟨r, Ev.step (fun k => by rw [spec_GapClash.l0]) ?_, hf⟩
    rw [wadd1 (by omega), rd_nat, getD_get hj]
    have := h2.1
    exact ev_pos (by omega) (ev_pos (by omega) (ev_pos (by omega) (ev_pos (by omega) hr)))
theorem spec_GapClash.ev (l : List Int) (hl : l.length < 4611686018427387904) : ∃ r, Ev (fun k => spec_GapClash.f k l) r ∧ GC l r := by
  by_cases hg : GapL l
  · by_cases e : l = []
    · subst e
      refine ⟨(0, 0, false), ?_, .inl ⟨.inr rfl, rfl⟩⟩
      unfold spec_GapClash.f
      refine Ev.bind (spec_l8Gaps.ev [] hl) ?_
      rw [B_true hg]
      refine ev_pos rfl ?_
      refine Ev.step (fun k => by rw [spec_GapClash.j0]) ?_
      exact ev_pos (by simp) (Ev.now _)
    · have h0 : 0 < l.length := List.length_pos_iff.2 e
      have hm := hg.2 _ (getD_mem (l := l) (j := l.length - 1) (by omega))
      obtain ⟨n, hn⟩ : ∃ n : Nat, (n : Int) = l.getD (l.length - 1) 0 := ⟨(l.getD (l.length - 1) 0).toNat, by omega⟩
      obtain ⟨r, hr, hf⟩ := spec_GapClash.l0_ev l hl hg n (by omega) (fun x hx => by rw [hn]; exact asc_le_last hg.1 hx) l.length 0 (List.replicate (2 * n + 1) false) (by omega) (Marked.init (by simp))
      refine ⟨r, ?_, .inr ⟨hg, e, by rw [← hn]; exact hf⟩⟩
      unfold spec_GapClash.f
      refine Ev.bind (spec_l8Gaps.ev l hl) ?_
      rw [B_true hg]
      refine ev_pos rfl ?_
      refine Ev.step (fun k => by rw [spec_GapClash.j0]) ?_
      have e1 : Box (wrap64 ((l.length : Int) - 1) = ((l.length - 1 : Nat) : Int)) := Box.mk (by rw [w64 (by omega) (by omega)]; omega)
      rw [e1.out, rd_nat, ← hn]
      have e2 : Box (wrap64 (wrap64 (2 * (n : Int)) + 1) = ((2 * n + 1 : Nat) : Int)) := Box.mk (by rw [w64 (n := 2 * (n : Int)) (by omega) (by omega), w64 (by omega) (by omega)]; omega)
      rw [e2.out, Int.toNat_natCast]
      refine ev_neg (by simp; exact e) (ev_pos (by omega) (ev_pos (by omega) (ev_pos (by omega) (ev_pos (by omega) hr))))
  · refine ⟨(0, 0, false), ?_, .inl ⟨.inl hg, rfl⟩⟩
    unfold spec_GapClash.f
    refine Ev.bind (spec_l8Gaps.ev l hl) ?_
    rw [B_false hg]
    refine ev_neg (by simp) ?_
    refine Ev.step (fun k => by rw [spec_GapClash.j0]) ?_
    exact ev_pos rfl (Ev.now _)

/-! impl_within -/
theorem impl_within.eq (a b c : Int) : impl_within.f a b c = some (decide (b ≤ a ∧ a ≤ c)) := by
  unfold impl_within.f
  by_cases h : b ≤ a <;> simp [h]

/-! impl_allWithin -/
theorem impl_allWithin.l0_ev (l : List Int) (lo hi : Int) (hl : l.length < 4611686018427387904) : ∀ (d j : Nat), j + d = l.length → Ev (fun k => impl_allWithin.l0 k lo hi l (l.length : Int) (j : Int)) (B (∀ x ∈ l.drop j, lo ≤ x ∧ x ≤ hi)) := by
  intro d
  induction d with
  | zero =>
    intro j h1
    refine Ev.step (fun k => by rw [impl_allWithin.l0]) ?_
    rw [B_true (by rw [List.drop_of_length_le (by omega)]; simp)]
    exact ev_neg (by omega) (Ev.now _)
  | succ d ih =>
    intro j h1
    have hj : j < l.length := by omega
    refine Ev.step (fun k => by rw [impl_allWithin.l0]) ?_
    rw [wadd1 (by omega), rd_nat, getD_get hj, List.drop_eq_getElem_cons hj, impl_within.eq]
    simp only [Option.bind_some]
    refine ev_pos (by omega) (ev_pos (by omega) (ev_pos (by omega) ?_))
    by_cases e : lo ≤ l[j] ∧ l[j] ≤ hi
    · refine ev_pos (decide_eq_true e) ?_
      rw [B_congr (q := ∀ x ∈ l.drop (j + 1), lo ≤ x ∧ x ≤ hi) (by simp only [List.forall_mem_cons, e.1, e.2, and_self, true_and])]
      exact ih (j + 1) (by omega)
    · refine ev_neg (by simpa using e) ?_
      rw [B_false (fun h => e (h _ List.mem_cons_self))]
      exact Ev.now _
theorem impl_allWithin.ev (l : List Int) (lo hi : Int) (hl : l.length < 4611686018427387904) : Ev (fun k => impl_allWithin.f k l lo hi) (B (∀ x ∈ l, lo ≤ x ∧ x ≤ hi)) := by
  unfold impl_allWithin.f
  exact impl_allWithin.l0_ev l lo hi hl l.length 0 (by omega)

/-! impl_IsAscending -/
theorem impl_IsAscending.l0_ev (l : List Int) (hl : l.length < 4611686018427387904) : ∀ (d j : Nat), l.length ≤ j + 1 + d → Ev (fun k => impl_IsAscending.l0 k l ((j + 1 : Nat) : Int)) (B (∀ i, j ≤ i → i + 1 < l.length → l.getD i 0 < l.getD (i + 1) 0)) := by
  intro d
  induction d with
  | zero =>
    intro j h1
    refine Ev.step (fun k => by rw [impl_IsAscending.l0]) ?_
    rw [B_true (fun i _ _ => by omega)]
    exact ev_neg (by omega) (Ev.now _)
  | succ d ih =>
    intro j h1
    refine Ev.step (fun k => by rw [impl_IsAscending.l0]) ?_
    by_cases hj : j + 1 < l.length
    · have e1 : wrap64 (((j + 1 : Nat) : Int) - 1) = (j : Int) := by rw [w64 (by omega) (by omega)]; omega
      rw [e1, wadd1 (by omega), rd_nat, rd_nat]
      refine ev_pos (by omega) (ev_pos (by omega) (ev_pos (by omega) (ev_pos (by omega) ?_)))
      by_cases e : l.getD (j + 1) 0 ≤ l.getD j 0
      · refine ev_pos e ?_
        rw [B_false (fun h => by have := h j (by omega) hj; omega)]
        exact Ev.now _
      · refine ev_neg e ?_
        rw [B_congr (q := ∀ i, j + 1 ≤ i → i + 1 < l.length → l.getD i 0 < l.getD (i + 1) 0) ⟨fun h i hi => h i (by omega), fun h i hi h2 => by
          by_cases e3 : i = j
          · subst e3; omega
          · exact h i (by omega) h2⟩]
        exact ih (j + 1) (by omega)
    · rw [B_true (fun i _ _ => by omega)]
      exact ev_neg (by omega) (Ev.now _)
theorem impl_IsAscending.ev (l : List Int) (hl : l.length < 4611686018427387904) : Ev (fun k => impl_IsAscending.f k l) (B (Asc l)) := by
  unfold impl_IsAscending.f
  rw [B_congr (p := Asc l) (q := ∀ i, 0 ≤ i → i + 1 < l.length → l.getD i 0 < l.getD (i + 1) 0) ⟨fun h i _ => h i, fun h i => h i (by omega)⟩]
  exact impl_IsAscending.l0_ev l hl l.length 0 (by omega)

/-! impl_gapList -/
theorem impl_gapList.ev (l : List Int) (hl : l.length < 4611686018427387904) : Ev (fun k => impl_gapList.f k l) (B (GapL l)) := by
  unfold impl_gapList.f
  refine Ev.bind (impl_IsAscending.ev l hl) ?_
  by_cases h : Asc l
  · rw [B_true h, B_congr (q := ∀ x ∈ l, 1 ≤ x ∧ x ≤ 199) (by unfold GapL; simp [h])]
    exact ev_pos rfl (Ev.bind (impl_allWithin.ev l 1 199 hl) (Ev.now _))
  · rw [B_false h, B_false (fun hh => h hh.1)]
    exact ev_neg (by simp) (Ev.now _)

/-! impl_GapClash -/
set_option maxHeartbeats 4000000 in
theorem impl_GapClash.l1_ev (l : List Int) (T : List Bool) (n N : Nat) (hn : n ≤ 199) (hN : n < N) (hT : Marked T N (· ∈ l)) (htop : ∀ x ∈ l, x ≤ (n : Int)) : ∀ (d a : Nat), 1 ≤ a → n + 1 ≤ a + d → (∀ a' b', 1 ≤ a' → a' ≤ b' → b' ≤ n → a' < a → ¬ gcViol l a' b') → ∃ r, Ev (fun k => impl_GapClash.l1 k T (n : Int) (a : Int)) r ∧ First (gcViol l) n r := by
  have hTl := hT.1
  intro d
  induction d with
  | zero =>
    intro a h1 h2 h3
    refine ⟨_, Ev.step (fun k => by rw [impl_GapClash.l1]) ?_, .inl ⟨rfl, fun a' b' x y z => h3 a' b' x y z (by omega)⟩⟩
    exact ev_neg (by omega) (Ev.now _)
  | succ d ih =>
    intro a h1 h2 h3
    by_cases ha : a < n + 1
    · have inner : ∀ (d' b : Nat), a ≤ b → b ≤ n + 1 → n + 1 ≤ b + d' → (∀ b', a ≤ b' → b' < b → ¬ gcViol l a b') → ∃ r, Ev (fun k => impl_GapClash.l2 k T (n : Int) (a : Int) (b : Int)) r ∧ First (gcViol l) n r := by
        have past : ∀ b : Nat, n < a + b → b < 1000 → (∀ b', a ≤ b' → b' < b → ¬ gcViol l a b') → ∃ r, Ev (fun k => impl_GapClash.l2 k T (n : Int) (a : Int) (b : Int)) r ∧ First (gcViol l) n r := by
          intro b hb hb2 hv
          obtain ⟨r, hr, hf⟩ := ih (a + 1) (by omega) (by omega) (fun a' b' x y z w => by
            by_cases e : a' = a
            · subst e
              intro hv'
              by_cases e : b' < b
              · exact hv b' y e hv'
              · have := htop _ hv'.2.2; omega
            · exact h3 a' b' x y z (by omega))
          refine ⟨r, Ev.step (fun k => by rw [impl_GapClash.l2]) ?_, hf⟩
          refine ev_neg ?_ ?_
          · rw [w64 (by omega) (by omega)]; omega
          · rw [wadd1 (by omega)]; exact hr
        intro d'
        induction d' with
        | zero => intro b g1 g0 g2 g3; exact past b (by omega) (by omega) g3
        | succ d' ih' =>
          intro b g1 g0 g2 g3
          by_cases hb : a + b ≤ n
          · have e3 := Box.mk (waddn (a := a) (b := b) (by omega) (by omega))
            have next : Box (¬ gcViol l a b → ∃ r, Ev (fun k => impl_GapClash.l2 k T (n : Int) (a : Int) (wrap64 ((b : Int) + 1))) r ∧ First (gcViol l) n r) := Box.mk <| by
              intro hv
              rw [wadd1 (by omega)]
              exact ih' (b + 1) (by omega) (by omega) (by omega) (fun b' x y => by
                by_cases e : b' = b
                · subst e; exact hv
                · exact g3 b' x (by omega))
            have found : Box (gcViol l a b → First (gcViol l) n ((a : Int), (b : Int), true)) := Box.mk fun hv => .inr ⟨a, b, h1, g1, by omega, hv, rfl, fun a' b' x y z w => by
              rcases w with w | ⟨w, w2⟩
              · exact h3 a' b' x y z w
              · subst w; exact g3 b' y w2⟩
            by_cases ca : (a : Int) ∈ l
            · obtain ⟨r, hr, hf⟩ := next.out (fun hv => hv.1 ca)
              refine ⟨r, Ev.step (fun k => by rw [impl_GapClash.l2]) ?_, hf⟩
              rw [e3.out, rdOf_nat, (hT.2 a (by omega)).2 ca]
              exact ev_pos (by omega) (ev_pos (by omega) (ev_pos (by omega) (ev_pos rfl hr)))
            · have ta : T.getD a false = false := by
                cases e : T.getD a false with
                | false => rfl
                | true => exact absurd ((hT.2 a (by omega)).1 e) ca
              by_cases cb : (b : Int) ∈ l
              · obtain ⟨r, hr, hf⟩ := next.out (fun hv => hv.2.1 cb)
                refine ⟨r, Ev.step (fun k => by rw [impl_GapClash.l2]) ?_, hf⟩
                rw [e3.out, rdOf_nat, rdOf_nat, ta, (hT.2 b (by omega)).2 cb]
                exact ev_pos (by omega) (ev_pos (by omega) (ev_pos (by omega) (ev_neg (by simp) (ev_pos (by omega) (ev_pos (by omega) (ev_pos rfl hr))))))
              · have tb : T.getD b false = false := by
                  cases e : T.getD b false with
                  | false => rfl
                  | true => exact absurd ((hT.2 b (by omega)).1 e) cb
                by_cases cs : ((a + b : Nat) : Int) ∈ l
                · refine ⟨_, Ev.step (fun k => by rw [impl_GapClash.l2]) ?_, found.out ⟨ca, cb, cs⟩⟩
                  rw [e3.out, rdOf_nat, rdOf_nat, rdOf_nat, ta, tb, (hT.2 (a + b) (by omega)).2 cs]
                  exact ev_pos (by omega) (ev_pos (by omega) (ev_pos (by omega) (ev_neg (by simp) (ev_pos (by omega) (ev_pos (by omega) (ev_neg (by simp) (ev_pos (by omega) (ev_pos (by omega) (ev_pos rfl (Ev.now _))))))))))
                · have ts : T.getD (a + b) false = false := by
                    cases e : T.getD (a + b) false with
                    | false => rfl
                    | true => exact absurd ((hT.2 (a + b) (by omega)).1 e) cs
                  obtain ⟨r, hr, hf⟩ := next.out (fun hv => cs hv.2.2)
                  refine ⟨r, Ev.step (fun k => by rw [impl_GapClash.l2]) ?_, hf⟩
                  rw [e3.out, rdOf_nat, rdOf_nat, rdOf_nat, ta, tb, ts]
                  exact ev_pos (by omega) (ev_pos (by omega) (ev_pos (by omega) (ev_neg (by simp) (ev_pos (by omega) (ev_pos (by omega) (ev_neg (by simp) (ev_pos (by omega) (ev_pos (by omega) (ev_neg (by simp) hr)))))))))
          · exact past b (by omega) (by omega) g3
      obtain ⟨r, hr, hf⟩ := inner (n + 1) a (by omega) (by omega) (by omega) (fun b' x y => by omega)
      refine ⟨r, Ev.step (fun k => by rw [impl_GapClash.l1]) ?_, hf⟩
      exact ev_pos (by omega) hr
    · refine ⟨_, Ev.step (fun k => by rw [impl_GapClash.l1]) ?_, .inl ⟨rfl, fun a' b' x y z => h3 a' b' x y z (by omega)⟩⟩
      exact ev_neg (by omega) (Ev.now _)
theorem impl_GapClash.l0_ev (l : List Int) (hl : l.length < 4611686018427387904) (h0 : 0 < l.length) (hg : GapL l) (n : Nat) (hn : n ≤ 199) (hlast : (n : Int) = l.getD (l.length - 1) 0) (htop : ∀ x ∈ l, x ≤ (n : Int)) : ∀ (d j : Nat) (T : List Bool), j + d = l.length → Marked T 201 (· ∈ l.take j) → ∃ r, Ev (fun k => impl_GapClash.l0 k l T l (l.length : Int) (j : Int)) r ∧ First (gcViol l) n r := by
  intro d
  induction d with
  | zero =>
    intro j T h1 h2
    rw [List.take_of_length_le (by omega)] at h2
    obtain ⟨r, hr, hf⟩ := impl_GapClash.l1_ev l T n 201 hn (by omega) h2 htop n 1 (by omega) (by omega) (fun a' b' _ _ _ _ => by omega)
    refine ⟨r, Ev.step (fun k => by rw [impl_GapClash.l0]) ?_, hf⟩
    refine ev_neg (by omega) ?_
    have e1 : Box (wrap64 ((l.length : Int) - 1) = ((l.length - 1 : Nat) : Int)) := Box.mk (by rw [w64 (by omega) (by omega)]; omega)
    rw [e1.out, rd_nat, ← hlast]
    exact ev_pos (by omega) (ev_pos (by omega) hr)
  | succ d ih =>
    intro j T h1 h2
    have hj : j < l.length := by omega
    have m1 := hg.2 _ (List.getElem_mem hj)
    obtain ⟨r, hr, hf⟩ := ih (j + 1) (T.set (l[j]).toNat true) (by omega) (h2.step (by omega) (by omega) (fun y => by rw [List.take_succ_eq_append_getElem hj, List.mem_append, List.mem_singleton]))
    refine ⟨r, Ev.step (fun k => by rw [impl_GapClash.l0]) ?_, hf⟩
    rw [wadd1 (by omega), rd_nat, getD_get hj]
    have := h2.1
    exact ev_pos (by omega) (ev_pos (by omega) (ev_pos (by omega) (ev_pos (by omega) (ev_pos (by omega) hr))))
theorem impl_GapClash.ev (l : List Int) (hl : l.length < 4611686018427387904) : ∃ r, Ev (fun k => impl_GapClash.f k l) r ∧ GC l r := by
  by_cases hg : GapL l
  · by_cases e : l = []
    · subst e
      refine ⟨(0, 0, false), ?_, .inl ⟨.inr rfl, rfl⟩⟩
      unfold impl_GapClash.f
      refine Ev.bind (impl_gapList.ev [] hl) ?_
      rw [B_true hg]
      refine ev_pos rfl ?_
      refine Ev.step (fun k => by rw [impl_GapClash.j0]) ?_
      exact ev_pos (by simp) (Ev.now _)
    · have h0 : 0 < l.length := List.length_pos_iff.2 e
      have hm := hg.2 _ (getD_mem (l := l) (j := l.length - 1) (by omega))
      obtain ⟨n, hn⟩ : ∃ n : Nat, (n : Int) = l.getD (l.length - 1) 0 := ⟨(l.getD (l.length - 1) 0).toNat, by omega⟩
      obtain ⟨r, hr, hf⟩ := impl_GapClash.l0_ev l hl h0 hg n (by omega) hn (fun x hx => by rw [hn]; exact asc_le_last hg.1 hx) l.length 0 (List.replicate 201 false) (by omega) (Marked.init (by simp))
      refine ⟨r, ?_, .inr ⟨hg, e, by rw [← hn]; exact hf⟩⟩
      unfold impl_GapClash.f
      refine Ev.bind (impl_gapList.ev l hl) ?_
      rw [B_true hg]
      refine ev_pos rfl ?_
      refine Ev.step (fun k => by rw [impl_GapClash.j0]) ?_
      exact ev_neg (by simp; exact e) (ev_pos (by omega) hr)
  · refine ⟨(0, 0, false), ?_, .inl ⟨.inl hg, rfl⟩⟩
    unfold impl_GapClash.f
    refine Ev.bind (impl_gapList.ev l hl) ?_
    rw [B_false hg]
    refine ev_neg (by simp) ?_
    refine Ev.step (fun k => by rw [impl_GapClash.j0]) ?_
    exact ev_pos rfl (Ev.now _)

/-! laws_eqClash -/
theorem laws_eqClash.eq (a b : Int) : laws_eqClash.f a b a b = some true := by
  unfold laws_eqClash.f
  rw [if_pos rfl, if_pos rfl]

end Go.Proofs.Ytkikaiebmdadeaa.PFnExactGapClash
namespace Go.Proofs.Ytkikaiebmdadeaa.Pure
open Go.RowKit Go.Proofs.YtkikaiebmdadeaaW.PrintWords Go.Proofs.YtkikaiebmdadeaaW.PrintLast Go.Proofs.YtkikaiebmdadeaaW.PrintMore Go.Proofs.YtkikaiebmdadeaaM
set_option linter.unusedVariables false
set_option linter.unusedSimpArgs false
open Go.Proofs.Ytkikaiebmdadeaa.PFnExactGapClash
theorem FnExactGapClash : laws_FnExactGapClash.Pure := by
  intro l0 hl h8 hw
  refine Ev.rounds ?_
  unfold laws_FnExactGapClash.f
  by_cases h : (l0.length : Int) > 1048576
  · exact ev_pos h (Ev.now _)
  · refine ev_neg h ?_
    have hx : l0.length ≤ 1048576 := by omega
    obtain ⟨r, hr, hv⟩ := spec_GapClash.ev l0 (by omega)
    obtain ⟨q, hq, hv'⟩ := impl_GapClash.ev l0 (by omega)
    obtain rfl := GC.unique hv hv'
    refine Ev.bind (laws_toIntS.ev l0 hx) ?_
    refine Ev.bind hr ?_
    refine Ev.bind (laws_toIntS.ev l0 hx) ?_
    refine Ev.bind hq ?_
    simp only [laws_eqClash.eq, Option.bind_some]
    refine ev_pos trivial ?_
    refine Ev.step (fun k => by rw [laws_FnExactGapClash.j0]) ?_
    refine ev_neg (by simp) ?_
    refine Ev.bind (laws_toIntS.ev l0 hx) ?_
    refine Ev.bind (laws_eqIntS.ev l0 l0 (by omega)) ?_
    rw [B_true rfl]
    exact ev_pos rfl (Ev.now _)

end Go.Proofs.Ytkikaiebmdadeaa.Pure
