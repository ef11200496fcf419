/- The sum of two elements is an element, and no generator is a sum of others: for every input. No further condition. -/
import Derived.Test.YthednemidaegkaaPFnSemigroupsx1
import Derived.Test.YthednemidaegkaaPFnSemigroupsx2
import Derived.Test.YthednemidaegkaaPFnSemigroupsx4
import Derived.Test.YthednemidaegkaaPFnSemigroupsx5
import Derived.Test.YthednemidaegkaaPFnSemigroupsx6
import Derived.Test.YthednemidaegkaaPFnSemigroupsx7
import Derived.Test.YthednemidaegkaaPFnSemigroupsx8
import Derived.Test.YthednemidaegkaaPFnSemigroupsx10
import Derived.Test.YthednemidaegkaaPFnSemigroupsx19
import Derived.Test.YthednemidaegkaaPFnSemigroupsx21
import Derived.Test.YthednemidaegkaaPFnSemigroupsx22
import Derived.Test.YthednemidaegkaaMathFnSemigroups
namespace Go.Proofs.Ythednemidaegkaa.PFnSemigroups
open Go.RowKit Go.Proofs.YthednemidaegkaaW.PrintWords Go.Proofs.YthednemidaegkaaW.PrintLast Go.Proofs.YthednemidaegkaaW.PrintMore Go.Proofs.YthednemidaegkaaM
set_option linter.unusedVariables false
set_option linter.unusedSimpArgs false
/-! laws_big -/
theorem laws_big.eq (l : List Int) : laws_big.f l = some (decide ((l.length : Int) > 1048576)) := rfl

/-! spec_l2Same -/
theorem spec_l2Same.l0_ev (x y : List Int) (hl : x.length = y.length) (hx : x.length < 4611686018427387904) : ∀ (d j : Nat), j + d = x.length → Ev (fun k => spec_l2Same.l0 k x y (j : Int)) (B (x.drop j = y.drop j)) := by
  intro d
  induction d with
  | zero =>
    intro j h1
    refine Ev.step (fun k => by rw [spec_l2Same.l0]) ?_
    rw [B_true (by rw [List.drop_of_length_le (by omega), List.drop_of_length_le (by omega)])]
    exact ev_neg (by omega) (Ev.now _)
  | succ d ih =>
    intro j h1
    have hj : j < x.length := by omega
    have hj' : j < y.length := by omega
    refine Ev.step (fun k => by rw [spec_l2Same.l0]) ?_
    refine ev_pos (by omega) (ev_pos (by omega) (ev_pos (by omega) ?_))
    rw [wadd1 (by omega), rd_nat, rd_nat, getD_get hj, getD_get hj', List.drop_eq_getElem_cons hj, List.drop_eq_getElem_cons hj']
    by_cases e : x[j] = y[j]
    · refine ev_pos e ?_
      have := ih (j + 1) (by omega)
      rw [B_congr (q := x.drop (j + 1) = y.drop (j + 1)) (by simp only [e, List.cons.injEq, true_and])]
      exact this
    · refine ev_neg e ?_
      rw [B_false (fun h => e (List.cons.inj h).1)]
      exact Ev.now _
theorem spec_l2Same.ev (x y : List Int) (hx : x.length < 4611686018427387904) : Ev (fun k => spec_l2Same.f k x y) (B (x = y)) := by
  unfold spec_l2Same.f
  by_cases e : x.length = y.length
  · refine ev_pos (by omega) ?_
    exact spec_l2Same.l0_ev x y e hx x.length 0 (by omega)
  · refine ev_neg (by omega) ?_
    rw [B_false (fun h => e (by rw [h]))]
    exact Ev.now _

/-! spec_EqualSemigroup -/
theorem spec_EqualSemigroup.ev (x y : List Int) (hx : x.length < 4611686018427387904) : Ev (fun k => spec_EqualSemigroup.f k x y) (B (x = y)) := by
  unfold spec_EqualSemigroup.f
  exact Ev.bind (spec_l2Same.ev x y hx) (Ev.now _)

/-! spec_l1In -/
theorem spec_l1In.eq (a b c : Int) : spec_l1In.f a b c = some (decide (b ≤ a ∧ a ≤ c)) := by
  unfold spec_l1In.f
  by_cases h : b ≤ a <;> simp [h]

/-! spec_l3Gens -/
theorem spec_l3Gens.l0_ev (l : List Int) (hl : l.length < 4611686018427387904) : ∀ (d j : Nat), j + d = l.length → Ev (fun k => spec_l3Gens.l0 k l (j : Int)) (B ((∀ x ∈ l.drop j, 1 ≤ x ∧ x ≤ 60) ∧ 1 ≤ l.length ∧ l.length ≤ 20)) := by
  intro d
  induction d with
  | zero =>
    intro j h1
    refine Ev.step (fun k => by rw [spec_l3Gens.l0]) ?_
    rw [B_congr (q := 1 ≤ (l.length : Int) ∧ (l.length : Int) ≤ 20) (by rw [List.drop_of_length_le (by omega)]; simp; omega), ← B_dec]
    simp only [spec_l1In.eq, Option.bind_some]
    exact ev_neg (by omega) (Ev.now _)
  | succ d ih =>
    intro j h1
    have hj : j < l.length := by omega
    refine Ev.step (fun k => by rw [spec_l3Gens.l0]) ?_
    rw [wadd1 (by omega), rd_nat, getD_get hj, List.drop_eq_getElem_cons hj, spec_l1In.eq]
    simp only [Option.bind_some]
    refine ev_pos (by omega) (ev_pos (by omega) ?_)
    by_cases e : 1 ≤ l[j] ∧ l[j] ≤ 60
    · refine ev_pos (decide_eq_true e) ?_
      rw [B_congr (q := (∀ x ∈ l.drop (j + 1), 1 ≤ x ∧ x ≤ 60) ∧ 1 ≤ l.length ∧ l.length ≤ 20) (by simp only [List.forall_mem_cons, e.1, e.2, and_self, true_and])]
      exact ih (j + 1) (by omega)
    · refine ev_neg (by simpa using e) ?_
      rw [B_false (fun h => e (h.1 _ List.mem_cons_self))]
      exact Ev.now _
theorem spec_l3Gens.ev (l : List Int) (hl : l.length < 4611686018427387904) : Ev (fun k => spec_l3Gens.f k l) (B ((∀ x ∈ l, 1 ≤ x ∧ x ≤ 60) ∧ 1 ≤ l.length ∧ l.length ≤ 20)) := by
  unfold spec_l3Gens.f
  exact spec_l3Gens.l0_ev l hl l.length 0 (by omega)

/-! spec_l3Table -/
theorem spec_l3Table.l0_ev (g : List Int) (hg : ∀ x ∈ g, 1 ≤ x) (hgb : ∀ x ∈ g, x ≤ 4611686018427387904) (hgl : g.length < 4611686018427387904) (m : Nat) (hm : m < 1000000000000) :
    ∀ (d n : Nat) (T : List Bool), n + d = m + 1 → 1 ≤ n → Marked T (m + 1) (fun y => y < (n : Int) ∧ Gen g y) → ∃ T', Ev (fun k => spec_l3Table.l0 k g (m : Int) T (n : Int)) T' ∧ IsTable g (m + 1) T' := by
  intro d
  induction d with
  | zero =>
    intro n T h1 h2 h3
    refine ⟨T, Ev.step (fun k => by rw [spec_l3Table.l0]) ?_, h3.congr (fun i hi => ⟨fun h => h.2, fun h => ⟨by omega, h⟩⟩)⟩
    exact ev_neg (by omega) (Ev.now _)
  | succ d ih =>
    intro n T h1 h2 h3
    have inner : ∀ (d' j : Nat) (T : List Bool), j + d' = g.length → Marked T (m + 1) (fun y => (y < (n : Int) ∧ Gen g y) ∨ (y = (n : Int) ∧ ∃ x ∈ g.take j, Gen g ((n : Int) - x))) →
        ∃ T', Ev (fun k => spec_l3Table.l1 k g (m : Int) T (n : Int) (j : Int)) T' ∧ IsTable g (m + 1) T' := by
      intro d'
      induction d' with
      | zero =>
        intro j T g1 g2
        obtain ⟨T', ht, hT⟩ := ih (n + 1) T (by omega) (by omega) (g2.congr (fun i hi => by
          rw [List.take_of_length_le (by omega)]
          constructor
          · rintro (⟨a, b⟩ | ⟨a, x, hx, b⟩)
            · exact ⟨by omega, b⟩
            · rw [a]; exact ⟨by omega, Gen.back hx b⟩
          · rintro ⟨a, b⟩
            by_cases e : (i : Int) < (n : Int)
            · exact .inl ⟨e, b⟩
            · right
              have e2 : (i : Int) = (n : Int) := by omega
              rw [e2] at b
              rcases b.inv with b | ⟨x, hx, b⟩
              · omega
              · exact ⟨e2, x, hx, b⟩))
        refine ⟨T', Ev.step (fun k => by rw [spec_l3Table.l1]) ?_, hT⟩
        refine ev_neg (by omega) ?_
        rw [wadd1 (by omega)]; exact ht
      | succ d' ih' =>
        intro j T g1 g2
        have hj : j < g.length := by omega
        have hx1 := hg _ (List.getElem_mem hj)
        have hx2 := hgb _ (List.getElem_mem hj)
        have hT := g2.1
        have next : ∀ T2, Marked T2 (m + 1) (fun y => (y < (n : Int) ∧ Gen g y) ∨ (y = (n : Int) ∧ ∃ x ∈ g.take (j + 1), Gen g ((n : Int) - x))) → ∃ T', Ev (fun k => spec_l3Table.l1 k g (m : Int) T2 (n : Int) (wrap64 ((j : Int) + 1))) T' ∧ IsTable g (m + 1) T' := by
          intro T2 h
          rw [wadd1 (by omega)]
          exact ih' (j + 1) T2 (by omega) h
        by_cases c : (n : Int) ≥ g[j]
        · have e1 : wrap64 ((n : Int) - g[j]) = ((((n : Int) - g[j]).toNat : Nat) : Int) := by rw [w64 (by omega) (by omega)]; omega
          have hlt : ((n : Int) - g[j]).toNat < m + 1 := by omega
          by_cases ct : T.getD ((n : Int) - g[j]).toNat false = true
          · have hgen : Gen g ((n : Int) - g[j]) := by
              have := (g2.2 _ hlt).1 ct
              rw [Int.toNat_of_nonneg (by omega)] at this
              rcases this with ⟨_, b⟩ | ⟨a, _⟩
              · exact b
              · omega
            obtain ⟨T', ht, hT'⟩ := next (T.set ((n : Int)).toNat true) (g2.step (by omega) (by omega) (fun y => by
              rw [List.take_succ_eq_append_getElem hj]
              constructor
              · rintro (a | ⟨a, x, hx, b⟩)
                · exact .inl (.inl a)
                · exact .inr a
              · rintro ((a | ⟨a, x, hx, b⟩) | a)
                · exact .inl a
                · exact .inr ⟨a, x, List.mem_append.2 (.inl hx), b⟩
                · exact .inr ⟨a, g[j], List.mem_append.2 (.inr (List.mem_singleton.2 rfl)), hgen⟩))
            refine ⟨T', Ev.step (fun k => by rw [spec_l3Table.l1]) ?_, hT'⟩
            rw [rd_nat, getD_get hj, e1, rdOf_nat]
            exact ev_pos (by omega) (ev_pos (by omega) (ev_pos c (ev_pos (by omega) (ev_pos (by omega) (ev_pos ct (ev_pos (by omega) (ev_pos (by omega) ht)))))))
          · obtain ⟨T', ht, hT'⟩ := next T (g2.congr (fun i hi => by
              rw [List.take_succ_eq_append_getElem hj]
              constructor
              · rintro (a | ⟨a, x, hx, b⟩)
                · exact .inl a
                · exact .inr ⟨a, x, List.mem_append.2 (.inl hx), b⟩
              · rintro (a | ⟨a, x, hx, b⟩)
                · exact .inl a
                · rcases List.mem_append.1 hx with hx | hx
                  · exact .inr ⟨a, x, hx, b⟩
                  · rw [List.mem_singleton.1 hx] at b
                    exact absurd ((g2.2 _ hlt).2 (by rw [Int.toNat_of_nonneg (by omega)]; exact .inl ⟨by omega, b⟩)) ct))
            refine ⟨T', Ev.step (fun k => by rw [spec_l3Table.l1]) ?_, hT'⟩
            rw [rd_nat, getD_get hj, e1, rdOf_nat]
            exact ev_pos (by omega) (ev_pos (by omega) (ev_pos c (ev_pos (by omega) (ev_pos (by omega) (ev_neg ct ht)))))
        · obtain ⟨T', ht, hT'⟩ := next T (g2.congr (fun i hi => by
            rw [List.take_succ_eq_append_getElem hj]
            constructor
            · rintro (a | ⟨a, x, hx, b⟩)
              · exact .inl a
              · exact .inr ⟨a, x, List.mem_append.2 (.inl hx), b⟩
            · rintro (a | ⟨a, x, hx, b⟩)
              · exact .inl a
              · rcases List.mem_append.1 hx with hx | hx
                · exact .inr ⟨a, x, hx, b⟩
                · rw [List.mem_singleton.1 hx] at b
                  have := b.nonneg hg
                  omega))
          refine ⟨T', Ev.step (fun k => by rw [spec_l3Table.l1]) ?_, hT'⟩
          rw [rd_nat, getD_get hj]
          exact ev_pos (by omega) (ev_pos (by omega) (ev_neg c ht))
    obtain ⟨T', ht, hT⟩ := inner g.length 0 T (by omega) (h3.congr (fun i hi => by
      constructor
      · intro a; exact .inl a
      · rintro (a | ⟨_, x, hx, _⟩)
        · exact a
        · simp at hx))
    refine ⟨T', Ev.step (fun k => by rw [spec_l3Table.l0]) ?_, hT⟩
    exact ev_pos (by omega) ht
theorem spec_l3Table.ev (g : List Int) (hg : ∀ x ∈ g, 1 ≤ x) (hgb : ∀ x ∈ g, x ≤ 4611686018427387904) (hgl : g.length < 4611686018427387904) (m : Nat) (hm : m < 1000000000000) : ∃ T, Ev (fun k => spec_l3Table.f k g (m : Int)) T ∧ IsTable g (m + 1) T := by
  obtain ⟨T, ht, hT⟩ := spec_l3Table.l0_ev g hg hgb hgl m hm m 1 ((List.replicate (m + 1) false).set (0 : Int).toNat true) (by omega) (by omega)
    ((Marked.init (P := fun _ => False) (fun _ h => h)).step (Q := fun y => y = 0) (x := 0) (by omega) (by omega) (fun y => by simp) |>.congr (fun i hi => by
      constructor
      · intro h
        have e : (i : Int) = 0 := h
        rw [e]
        exact ⟨by omega, .zero⟩
      · rintro ⟨h, _⟩
        show (i : Int) = 0
        omega))
  refine ⟨T, ?_, hT⟩
  unfold spec_l3Table.f
  rw [wadd1 (by omega)]
  simp only [Int.toNat_natCast, Option.bind_some, List.length_replicate]
  exact ev_pos (by omega) (ev_pos (by omega) (ev_pos (by omega) ht))

/-! spec_SortList -/
theorem spec_SortList.l0_ev (l : List Int) (hl : l.length ≤ 1000000000) : ∀ (d j : Nat) (s : List Int), j + d = l.length → s.length ≤ j → IsSort (l.take j) s → ∃ r, Ev (fun k => spec_SortList.l0 k l s (j : Int)) r ∧ IsSort l r ∧ r.length ≤ l.length := by
  intro d
  induction d with
  | zero =>
    intro j s h1 h2 h3
    rw [List.take_of_length_le (by omega)] at h3
    refine ⟨s, Ev.step (fun k => by rw [spec_SortList.l0]) ?_, h3, by omega⟩
    exact ev_neg (by omega) (Ev.now _)
  | succ d ih =>
    intro j s h1 h2 h3
    have hj : j < l.length := by omega
    have same : Box (l[j] ∈ s → ∃ r, Ev (fun k => spec_SortList.l0 k l s (wrap64 ((j : Int) + 1))) r ∧ IsSort l r ∧ r.length ≤ l.length) := Box.mk <| by
      intro hm
      rw [wadd1 (by omega)]
      refine ih (j + 1) s (by omega) (by omega) ⟨h3.1, fun x => ?_⟩
      rw [List.take_succ_eq_append_getElem hj, List.mem_append, List.mem_singleton, ← h3.2]
      constructor
      · intro h; exact .inl h
      · rintro (h | h)
        · exact h
        · rw [h]; exact hm
    have inner : ∀ (b : Nat), b ≤ s.length → (∀ i, b ≤ i → i < s.length → l[j] < s.getD i 0) → ∃ r, Ev (fun k => spec_SortList.l1 k l s (j : Int) (b : Int)) r ∧ IsSort l r ∧ r.length ≤ l.length := by
      have put : ∀ b : Nat, b ≤ s.length → (0 < b → s.getD (b - 1) 0 < l[j]) → (∀ i, b ≤ i → i < s.length → l[j] < s.getD i 0) → ∃ r, Ev (fun k => spec_SortList.l0 k l (s.take b ++ [l[j]] ++ ([] ++ s.drop b)) (wrap64 ((j : Int) + 1))) r ∧ IsSort l r ∧ r.length ≤ l.length := by
        intro b hb hlo hhi
        obtain ⟨p1, p2⟩ := insert_sorted h3.1 b hb l[j] hlo hhi
        rw [wadd1 (by omega), List.nil_append]
        refine ih (j + 1) _ (by omega) (by simp; omega) ⟨p1, fun x => ?_⟩
        rw [p2, List.take_succ_eq_append_getElem hj, List.mem_append, List.mem_singleton, h3.2]
      intro b
      induction b with
      | zero =>
        intro hb hhi
        obtain ⟨r, hr, hs, hl'⟩ := put 0 (by omega) (fun h => by omega) hhi
        refine ⟨r, Ev.step (fun k => by rw [spec_SortList.l1]) ?_, hs, hl'⟩
        simp only [Option.bind_some, rd_nat, getD_get hj]
        exact ev_neg (by omega) (ev_pos (by omega) (ev_pos (by omega) (ev_pos (by simp; omega) (ev_pos (by omega) (ev_pos (by omega) (ev_pos (by simp) (ev_pos (by simp; omega) hr)))))))
      | succ b ihb =>
        intro hb hhi
        have e1 : wrap64 (((b + 1 : Nat) : Int) - 1) = (b : Int) := by rw [w64 (by omega) (by omega)]; omega
        by_cases c1 : s.getD b 0 > l[j]
        · obtain ⟨r, hr, hs, hl'⟩ := ihb (by omega) (fun i i1 i2 => by
            by_cases e : i = b
            · subst e; omega
            · exact hhi i (by omega) i2)
          refine ⟨r, Ev.step (fun k => by rw [spec_SortList.l1]) ?_, hs, hl'⟩
          rw [e1, rd_nat, rd_nat, getD_get hj]
          exact ev_pos (by omega) (ev_pos (by omega) (ev_pos (by omega) (ev_pos (by omega) (ev_pos (by omega) (ev_pos c1 hr)))))
        · by_cases c2 : s.getD b 0 = l[j]
          · obtain ⟨r, hr, hs, hl'⟩ := same.out (by rw [← c2]; exact getD_mem (by omega))
            refine ⟨r, Ev.step (fun k => by rw [spec_SortList.l1]) ?_, hs, hl'⟩
            rw [e1, rd_nat, rd_nat, getD_get hj]
            exact ev_pos (by omega) (ev_pos (by omega) (ev_pos (by omega) (ev_pos (by omega) (ev_pos (by omega) (ev_neg c1 (ev_pos c2 hr))))))
          · obtain ⟨r, hr, hs, hl'⟩ := put (b + 1) (by omega) (fun _ => by rw [Nat.add_sub_cancel]; omega) hhi
            refine ⟨r, Ev.step (fun k => by rw [spec_SortList.l1]) ?_, hs, hl'⟩
            simp only [Option.bind_some]
            rw [e1, rd_nat, rd_nat, getD_get hj, Int.toNat_natCast]
            exact ev_pos (by omega) (ev_pos (by omega) (ev_pos (by omega) (ev_pos (by omega) (ev_pos (by omega) (ev_neg c1 (ev_neg c2 (ev_pos (by omega) (ev_pos (by omega) (ev_pos (by simp; omega) (ev_pos (by simp; omega) (ev_pos (by simp; omega) hr)))))))))))
    obtain ⟨r, hr, hs, hl'⟩ := inner s.length (by omega) (fun i i1 i2 => by omega)
    refine ⟨r, Ev.step (fun k => by rw [spec_SortList.l0]) ?_, hs, hl'⟩
    exact ev_pos (by omega) hr
theorem spec_SortList.ev (l : List Int) (hl : l.length ≤ 1000000000) : ∃ r, Ev (fun k => spec_SortList.f k l) r ∧ IsSort l r ∧ r.length ≤ l.length := by
  unfold spec_SortList.f
  exact spec_SortList.l0_ev l hl l.length 0 [] (by omega) (by simp) ⟨.nil, by simp⟩

/-! spec_l3Minimal -/
theorem spec_l3Minimal.l0_ev (s : List Int) (hs : ∀ x ∈ s, 1 ≤ x ∧ x ≤ 1000000) (hsl : s.length ≤ 1000000000) : ∀ (d j : Nat), j + d = s.length → Ev (fun k => spec_l3Minimal.l0 k (minK s j) s (j : Int)) (minV s) := by
  intro d
  induction d with
  | zero =>
    intro j h1
    refine Ev.step (fun k => by rw [spec_l3Minimal.l0]) ?_
    unfold minV
    rw [show j = s.length by omega]
    exact ev_neg (by omega) (Ev.now _)
  | succ d ih =>
    intro j h1
    have hj : j < s.length := by omega
    have hlen := minK_length s j
    have hx := hs _ (List.getElem_mem hj)
    have := ih (j + 1) (by omega)
    rw [minK] at this
    refine Ev.step (fun k => by rw [spec_l3Minimal.l0]) ?_
    rw [wadd1 (by omega), rd_nat, Int.toNat_natCast]
    refine ev_pos (by omega) ?_
    by_cases e : j = 0
    · refine ev_pos (by omega) (ev_pos (by omega) (ev_pos (by omega) ?_))
      rw [B_true (.inl e), if_pos rfl] at this
      exact this
    · refine ev_neg (by omega) (ev_pos (by omega) (ev_pos (by omega) ?_))
      rw [getD_get hj] at this ⊢
      obtain ⟨v, hv⟩ : ∃ v : Nat, (v : Int) = s[j] := ⟨s[j].toNat, by omega⟩
      obtain ⟨T, ht, hT⟩ := spec_l3Table.ev (s.take j) (fun x hx' => (hs x (List.take_subset _ _ hx')).1) (fun x hx' => by have := hs x (List.take_subset _ _ hx'); omega) (by simp; omega) v (by omega)
      rw [← hv]
      refine Ev.bind ht ?_
      have hTl := hT.1
      refine ev_pos (by omega) (ev_pos (by omega) ?_)
      rw [rdOf_nat, hT.at v (by omega)]
      rw [← hv] at this
      by_cases c : Gen (s.take j) (v : Int)
      · rw [B_true c]
        rw [B_false (by rintro (h | h); exact e h; exact h c), if_neg (by simp), List.append_nil] at this
        exact ev_pos rfl this
      · rw [B_false c]
        rw [B_true (.inr c), if_pos rfl] at this
        exact ev_neg (by simp) (ev_pos (by omega) this)
theorem spec_l3Minimal.ev (l : List Int) (hs : ∀ x ∈ l, 1 ≤ x ∧ x ≤ 1000000) (hsl : l.length ≤ 1000000000) : ∃ s, IsSort l s ∧ s.length ≤ l.length ∧ Ev (fun k => spec_l3Minimal.f k l) (minV s) := by
  obtain ⟨s, h1, h2, h3⟩ := spec_SortList.ev l hsl
  refine ⟨s, h2, h3, ?_⟩
  unfold spec_l3Minimal.f
  exact Ev.bind h1 (spec_l3Minimal.l0_ev s (fun x hx => hs x ((h2.2 x).1 hx)) (by omega) s.length 0 (by omega))

/-! spec_l2Small -/
theorem spec_l2Small.eq (a : Int) : spec_l2Small.f a = some (decide (-1000000 ≤ a ∧ a ≤ 1000000)) := by
  unfold spec_l2Small.f
  rw [spec_l1In.eq]; rfl

/-! spec_l1Max -/
theorem spec_l1Max.eq (a b : Int) : spec_l1Max.f a b = some (mx a b) := by
  unfold spec_l1Max.f mx
  split <;> split <;> first | rfl | (congr 1; omega)

/-! spec_GcdOf -/
theorem spec_GcdOf.l0_ev : ∀ (n m : Nat), Ev (fun k => spec_GcdOf.l0 k (m : Int) (n : Int)) ((Nat.gcd m n : Nat) : Int) := by
  intro n
  induction n using Nat.strongRecOn with
  | _ n ih =>
    intro m
    refine Ev.step (fun k => by rw [spec_GcdOf.l0]) ?_
    by_cases e : n = 0
    · subst e
      rw [Nat.gcd_zero_right]
      exact ev_neg (by omega) (Ev.now _)
    · refine ev_pos (by omega) (ev_neg (by omega) ?_)
      rw [← Int.ofNat_tmod, Nat.gcd_comm m n, Nat.gcd_rec n m, Nat.gcd_comm]
      exact ih (m % n) (Nat.mod_lt _ (by omega)) n
theorem spec_GcdOf.ev (a b : Int) : Ev (fun k => spec_GcdOf.f k a b) (gcdV a b) := by
  unfold spec_GcdOf.f
  simp only [spec_l2Small.eq, Option.bind_some]
  by_cases ha : -1000000 ≤ a ∧ a ≤ 1000000
  · by_cases hb : -1000000 ≤ b ∧ b ≤ 1000000
    · rw [decide_eq_true ha, decide_eq_true hb]
      refine ev_pos rfl ?_
      refine Ev.step (fun k => by rw [spec_GcdOf.j0]) ?_
      simp only [spec_l1Max.eq, Option.bind_some, mx_abs ha.1 ha.2, mx_abs hb.1 hb.2]
      refine ev_neg (by simp) ?_
      rw [gcdV, if_pos ⟨ha, hb⟩]
      exact spec_GcdOf.l0_ev _ _
    · rw [decide_eq_true ha, decide_eq_false hb]
      refine ev_pos rfl ?_
      refine Ev.step (fun k => by rw [spec_GcdOf.j0]) ?_
      rw [gcdV, if_neg (fun h => hb h.2)]
      exact ev_pos rfl (Ev.now _)
  · rw [decide_eq_false ha]
    refine ev_neg (by simp) ?_
    refine Ev.step (fun k => by rw [spec_GcdOf.j0]) ?_
    rw [gcdV, if_neg (fun h => ha h.1)]
    exact ev_pos rfl (Ev.now _)

/-! spec_GcdOfList -/
theorem spec_GcdOfList.l0_ev (l : List Int) (hl : l.length < 4611686018427387904) : ∀ (d j : Nat) (g : Int), j + d = l.length → Ev (fun k => spec_GcdOfList.l0 k l g (j : Int)) ((l.drop j).foldl gcdV g) := by
  intro d
  induction d with
  | zero =>
    intro j g h1
    refine Ev.step (fun k => by rw [spec_GcdOfList.l0]) ?_
    rw [List.drop_of_length_le (by omega)]
    exact ev_neg (by omega) (Ev.now _)
  | succ d ih =>
    intro j g h1
    have hj : j < l.length := by omega
    refine Ev.step (fun k => by rw [spec_GcdOfList.l0]) ?_
    rw [wadd1 (by omega), rd_nat, getD_get hj, List.drop_eq_getElem_cons hj, List.foldl_cons]
    exact ev_pos (by omega) (ev_pos (by omega) (Ev.bind (spec_GcdOf.ev _ _) (ih (j + 1) _ (by omega))))
theorem spec_GcdOfList.ev (l : List Int) (hl : l.length < 4611686018427387904) : Ev (fun k => spec_GcdOfList.f k l) (gcdLV l) := by
  unfold spec_GcdOfList.f gcdLV
  exact spec_GcdOfList.l0_ev l hl l.length 0 0 (by omega)

/-! spec_IsAscending -/
theorem spec_IsAscending.l0_ev (l : List Int) (hl : l.length < 4611686018427387904) : ∀ (d j : Nat), l.length ≤ j + 1 + d → Ev (fun k => spec_IsAscending.l0 k l ((j + 1 : Nat) : Int)) (B (∀ i, j ≤ i → i + 1 < l.length → l.getD i 0 < l.getD (i + 1) 0)) := by
  intro d
  induction d with
  | zero =>
    intro j h1
    refine Ev.step (fun k => by rw [spec_IsAscending.l0]) ?_
    rw [B_true (fun i _ _ => by omega)]
    exact ev_neg (by omega) (Ev.now _)
  | succ d ih =>
    intro j h1
    refine Ev.step (fun k => by rw [spec_IsAscending.l0]) ?_
    by_cases hj : j + 1 < l.length
    · have e1 : wrap64 (((j + 1 : Nat) : Int) - 1) = (j : Int) := by rw [w64 (by omega) (by omega)]; omega
      rw [e1, wadd1 (by omega), rd_nat, rd_nat]
      refine ev_pos (by omega) (ev_pos (by omega) (ev_pos (by omega) (ev_pos (by omega) ?_)))
      by_cases e : l.getD j 0 ≥ l.getD (j + 1) 0
      · refine ev_pos e ?_
        rw [B_false (fun h => by have := h j (by omega) hj; omega)]
        exact Ev.now _
      · refine ev_neg e ?_
        rw [B_congr (q := ∀ i, j + 1 ≤ i → i + 1 < l.length → l.getD i 0 < l.getD (i + 1) 0) ⟨fun h i hi => h i (by omega), fun h i hi h2 => by
          by_cases e3 : i = j
          · subst e3; omega
          · exact h i (by omega) h2⟩]
        exact ih (j + 1) (by omega)
    · rw [B_true (fun i _ _ => by omega)]
      exact ev_neg (by omega) (Ev.now _)
theorem spec_IsAscending.ev (l : List Int) (hl : l.length < 4611686018427387904) : Ev (fun k => spec_IsAscending.f k l) (B (Asc l)) := by
  unfold spec_IsAscending.f
  rw [B_congr (p := Asc l) (q := ∀ i, 0 ≤ i → i + 1 < l.length → l.getD i 0 < l.getD (i + 1) 0) ⟨fun h i _ => h i, fun h i => h i (by omega)⟩]
  exact spec_IsAscending.l0_ev l hl l.length 0 (by omega)

/-! spec_l3Ends -/
theorem spec_l3Ends.l0_ev (g : List Int) (hg0 : 0 < g.length) (a : Nat) (ha : (a : Int) = g.getD 0 0) (ha' : a ≤ 60) (T : List Bool) (hT : IsTable g 261 T) : ∀ (d n : Nat), n + d = 200 + a → Ev (fun k => spec_l3Ends.l0 k g T (n : Int)) (B (∀ m : Int, (n : Int) ≤ m → m < 200 + (a : Int) → Gen g m)) := by
  have hTl := hT.1
  intro d
  induction d with
  | zero =>
    intro n h1
    refine Ev.step (fun k => by rw [spec_l3Ends.l0]) ?_
    rw [show (0 : Int) = ((0 : Nat) : Int) from rfl, rd_nat, ← ha, w64 (by omega) (by omega), B_true (fun m _ _ => by omega)]
    exact ev_pos (by omega) (ev_neg (by omega) (Ev.now _))
  | succ d ih =>
    intro n h1
    refine Ev.step (fun k => by rw [spec_l3Ends.l0]) ?_
    rw [show rd g 0 = g.getD 0 0 by simp [rd], ← ha, w64 (n := 200 + (a : Int)) (by omega) (by omega), wadd1 (by omega), rdOf_nat, hT.at n (by omega)]
    refine ev_pos (by omega) (ev_pos (by omega) (ev_pos (by omega) (ev_pos (by omega) ?_)))
    by_cases c : Gen g (n : Int)
    · rw [B_true c]
      rw [B_congr (q := ∀ m : Int, ((n + 1 : Nat) : Int) ≤ m → m < 200 + (a : Int) → Gen g m) ⟨fun h m h1 h2 => h m (by omega) h2, fun h m h1 h2 => by
        by_cases e : m = (n : Int)
        · rw [e]; exact c
        · exact h m (by omega) h2⟩]
      exact ev_pos rfl (ih (n + 1) (by omega))
    · rw [B_false c, B_false (fun h => c (h _ (by omega) (by omega)))]
      exact ev_neg (by simp) (Ev.now _)
theorem spec_l3Ends.ev (g : List Int) (hg0 : 0 < g.length) (hgl : g.length ≤ 1000000) (hg : ∀ x ∈ g, 1 ≤ x ∧ x ≤ 60) : Ev (fun k => spec_l3Ends.f k g) (B (∀ n, 200 ≤ n → Gen g n)) := by
  have hm : g.getD 0 0 ∈ g := getD_mem hg0
  have hr := hg _ hm
  obtain ⟨a, ha⟩ : ∃ a : Nat, (a : Int) = g.getD 0 0 := ⟨(g.getD 0 0).toNat, by omega⟩
  obtain ⟨T, ht, hT⟩ := spec_l3Table.ev g (fun x hx => (hg x hx).1) (fun x hx => by have := hg x hx; omega) (by omega) 260 (by omega)
  unfold spec_l3Ends.f
  refine Ev.bind ht ?_
  rw [B_congr (ends_iff hm hr.1), ← ha]
  exact spec_l3Ends.l0_ev g hg0 a ha (by omega) T hT a 200 (by omega)

/-! spec_IsSemigroup -/
theorem spec_IsSemigroup.ev (g : List Int) (hgl : g.length ≤ 1048576) : Ev (fun k => spec_IsSemigroup.f k g) (B (SG g)) := by
  unfold spec_IsSemigroup.f
  refine Ev.bind (spec_l3Gens.ev g (by omega)) ?_
  by_cases c1 : (∀ x ∈ g, 1 ≤ x ∧ x ≤ 60) ∧ 1 ≤ g.length ∧ g.length ≤ 20
  · rw [B_true c1]
    refine ev_pos rfl ?_
    by_cases c2 : g.length ≤ 12
    · refine ev_pos (by omega) ?_
      refine Ev.bind (spec_IsAscending.ev g (by omega)) ?_
      by_cases c3 : Asc g
      · rw [B_true c3]
        refine ev_pos rfl ?_
        refine Ev.bind (spec_GcdOfList.ev g (by omega)) ?_
        by_cases c4 : gcdLV g = 1
        · refine ev_pos c4 ?_
          obtain ⟨s, h1, h2, h3⟩ := spec_l3Minimal.ev g (fun x hx => by have := c1.1 x hx; omega) (by omega)
          obtain rfl := h1.unique (IsSort.self c3)
          refine Ev.bind h3 ?_
          refine Ev.bind (spec_l2Same.ev (minV s) s (by have := minK_length s s.length; unfold minV; omega)) ?_
          by_cases c5 : Min s
          · rw [B_true (minV_self.2 c5)]
            refine ev_pos rfl ?_
            rw [B_congr (q := ∀ n, 200 ≤ n → Gen s n) ⟨fun h => h.2.2.2.2.2, fun h => ⟨⟨c1.2.1, c2⟩, c1.1, c3, c4, c5, h⟩⟩]
            exact Ev.bind (spec_l3Ends.ev s (by omega) (by omega) c1.1) (Ev.now _)
          · rw [B_false (fun h => c5 (minV_self.1 h)), B_false (fun h => c5 h.2.2.2.2.1)]
            exact ev_neg (by simp) (Ev.now _)
        · rw [B_false (fun h => c4 h.2.2.2.1)]
          exact ev_neg c4 (Ev.now _)
      · rw [B_false c3, B_false (fun h => c3 h.2.2.1)]
        exact ev_neg (by simp) (Ev.now _)
    · rw [B_false (fun h => c2 h.1.2)]
      exact ev_neg (by omega) (Ev.now _)
  · rw [B_false c1, B_false (fun h => c1 ⟨h.2.1, h.1.1, by have := h.1; omega⟩)]
    exact ev_neg (by simp) (Ev.now _)

/-! spec_l3Has -/
theorem spec_l3Has.ev (g : List Int) (h : SG g) (n : Int) : Ev (fun k => spec_l3Has.f k g n) (B (0 ≤ n ∧ Gen g n)) := by
  unfold spec_l3Has.f
  by_cases c1 : n < 0
  · refine ev_pos c1 ?_
    rw [B_false (fun hh => by omega), decide_eq_false (by omega)]
    exact Ev.now _
  · refine ev_neg c1 ?_
    by_cases c2 : n ≥ 200
    · refine ev_pos c2 ?_
      rw [B_true ⟨by omega, h.2.2.2.2.2 n c2⟩, decide_eq_true (by omega)]
      exact Ev.now _
    · refine ev_neg c2 ?_
      obtain ⟨m, rfl⟩ : ∃ m : Nat, n = (m : Int) := ⟨n.toNat, by omega⟩
      obtain ⟨T, ht, hT⟩ := spec_l3Table.ev g h.pos (fun x hx => by have := h.2.1 x hx; omega) (by have := h.1; omega) m (by omega)
      have hTl := hT.1
      refine Ev.bind ht (ev_pos (by omega) (ev_pos (by omega) ?_))
      rw [rdOf_nat, hT.at m (by omega), B_congr (q := 0 ≤ (m : Int) ∧ Gen g (m : Int)) ⟨fun hh => ⟨by omega, hh⟩, fun hh => hh.2⟩]
      exact Ev.now _

/-! spec_Contains -/
theorem spec_Contains.ev (g : List Int) (n : Int) (hgl : g.length ≤ 1048576) : Ev (fun k => spec_Contains.f k g n) (contV g n) := by
  unfold spec_Contains.f contV
  refine Ev.bind (spec_IsSemigroup.ev g hgl) ?_
  by_cases h : SG g
  · rw [B_true h, B_congr (q := 0 ≤ n ∧ Gen g n) ⟨fun hh => hh.2, fun hh => ⟨h, hh⟩⟩]
    exact ev_pos rfl (Ev.bind (spec_l3Has.ev g h n) (Ev.now _))
  · rw [B_false h, B_false (fun hh => h hh.1)]
    exact ev_neg (by simp) (Ev.now _)

/-! spec_l1New -/
theorem spec_l1New.l0_ev (l : List Int) (hl : l.length < 4611686018427387904) : ∀ (d j : Nat) (h : Int), j + d = l.length → ∃ h', Ev (fun k => spec_l1New.l0 k l h (j : Int)) (l, 0, h') := by
  intro d
  induction d with
  | zero =>
    intro j h g1
    refine ⟨h, Ev.step (fun k => by rw [spec_l1New.l0]) ?_⟩
    exact ev_neg (by omega) (Ev.now _)
  | succ d ih =>
    intro j h g1
    by_cases c : (j : Int) < 4000
    · obtain ⟨h', hh⟩ := ih (j + 1) (Go.bits .and .i64 (wrap64 ((wrap64 ((wrap64 (h * 131)) + (wrap64 (rd l (j : Int))))) + 7)) 1073741823) (by omega)
      refine ⟨h', Ev.step (fun k => by rw [spec_l1New.l0]) ?_⟩
      rw [wadd1 (j := j) (by omega)]
      exact ev_pos (by omega) (ev_pos c (ev_pos (by omega) hh))
    · refine ⟨h, Ev.step (fun k => by rw [spec_l1New.l0]) ?_⟩
      exact ev_pos (by omega) (ev_neg c (Ev.now _))
theorem spec_l1New.ev (l : List Int) (hl : l.length < 4611686018427387904) : ∃ h, Ev (fun k => spec_l1New.f k l) (l, 0, h) := by
  unfold spec_l1New.f
  exact spec_l1New.l0_ev l hl l.length 0 _ (by omega)

/-! spec_l1Byte -/
theorem spec_l1Byte.eq (s : List Int) (hs : s.length < 4611686018427387904) (i : Int) (hi : 0 ≤ i) (h : Int) : ∃ x i' h', spec_l1Byte.f s i h = some (x, i', h') ∧ (0 ≤ x ∧ x ≤ 255) ∧ 0 ≤ i' := by
  unfold spec_l1Byte.f
  by_cases c : i < (s.length : Int)
  · rw [if_pos c, if_pos hi]
    have e : wrap64 (i + 1) = i + 1 := w64 (by omega) (by omega)
    exact ⟨_, _, _, rfl, and255 _, by rw [e]; omega⟩
  · rw [if_neg c]
    exact ⟨_, _, _, rfl, and255 _, hi⟩

/-! spec_l1Below -/
theorem tmod_range {x n : Int} (hx : 0 ≤ x) (hn : 1 ≤ n) : 0 ≤ Int.tmod x n ∧ Int.tmod x n < n := by
  rw [Int.tmod_eq_emod_of_nonneg hx]
  exact ⟨Int.emod_nonneg _ (by omega), Int.emod_lt_of_pos _ (by omega)⟩
theorem spec_l1Below.eq (s : List Int) (hs : s.length < 4611686018427387904) (i : Int) (hi : 0 ≤ i) (h n : Int) (hn : 1 ≤ n) : ∃ x i' h', spec_l1Below.f s i h n = some (x, i', h') ∧ (0 ≤ x ∧ x < n) ∧ 0 ≤ i' := by
  unfold spec_l1Below.f
  rw [if_neg (by omega)]
  obtain ⟨x, i1, h1, e1, hx, hi1⟩ := spec_l1Byte.eq s hs i hi h
  by_cases c : n ≤ 256
  · rw [if_pos c, e1]
    simp only [Option.bind_some]
    rw [if_neg (by omega)]
    exact ⟨_, _, _, rfl, tmod_range hx.1 hn, hi1⟩
  · rw [if_neg c, e1]
    simp only [Option.bind_some]
    obtain ⟨y, i2, h2, e2, hy, hi2⟩ := spec_l1Byte.eq s hs i1 hi1 h1
    rw [e2]
    simp only [Option.bind_some]
    obtain ⟨z, i3, h3, e3, hz, hi3⟩ := spec_l1Byte.eq s hs i2 hi2 h2
    rw [e3]
    simp only [Option.bind_some]
    obtain ⟨v, i4, h4, e4, hv, hi4⟩ := spec_l1Byte.eq s hs i3 hi3 h3
    rw [e4]
    simp only [Option.bind_some]
    rw [if_neg (by omega)]
    have a1 : wrap64 (x * 16777216) = x * 16777216 := w64 (by omega) (by omega)
    have a2 : wrap64 (y * 65536) = y * 65536 := w64 (by omega) (by omega)
    have a3 : wrap64 (z * 256) = z * 256 := w64 (by omega) (by omega)
    rw [a1, a2, a3]
    have a4 : wrap64 (x * 16777216 + y * 65536) = x * 16777216 + y * 65536 := w64 (by omega) (by omega)
    rw [a4]
    have a5 : wrap64 (x * 16777216 + y * 65536 + z * 256) = x * 16777216 + y * 65536 + z * 256 := w64 (by omega) (by omega)
    rw [a5]
    have a6 : wrap64 (x * 16777216 + y * 65536 + z * 256 + v) = x * 16777216 + y * 65536 + z * 256 + v := w64 (by omega) (by omega)
    rw [a6]
    exact ⟨_, _, _, rfl, tmod_range (by omega) hn, hi4⟩

/-! spec_l1Once -/
theorem spec_l1Once.eq (s : List Int) (hs : s.length < 4611686018427387904) (i : Int) (hi : 0 ≤ i) (h n : Int) (hn : 1 ≤ n) : ∃ b i' h', spec_l1Once.f s i h n = some (b, i', h') ∧ 0 ≤ i' := by
  obtain ⟨x, i1, h1, e1, hx, hi1⟩ := spec_l1Below.eq s hs i hi h n hn
  unfold spec_l1Once.f
  rw [e1]
  exact ⟨_, _, _, rfl, hi1⟩

/-! spec_l1PickInt -/
theorem spec_l1PickInt.eq (s : List Int) (hs : s.length < 4611686018427387904) (i : Int) (hi : 0 ≤ i) (h : Int) (l : List Int) (hl : 1 ≤ l.length) : ∃ x i' h', spec_l1PickInt.f s i h l = some (x, i', h') ∧ x ∈ l ∧ 0 ≤ i' := by
  obtain ⟨x, i1, h1, e1, hx, hi1⟩ := spec_l1Below.eq s hs i hi h (l.length : Int) (by omega)
  unfold spec_l1PickInt.f
  rw [e1]
  simp only [Option.bind_some]
  rw [if_pos hx.1, if_pos hx.2]
  refine ⟨_, _, _, rfl, ?_, hi1⟩
  obtain ⟨m, rfl⟩ : ∃ m : Nat, x = (m : Int) := ⟨x.toNat, by omega⟩
  rw [rd_nat]
  exact getD_mem (by omega)

/-! spec_DrawGenerates -/
theorem spec_DrawGenerates.end_ev (s : List Int) (hs : s.length < 4611686018427387904) (acc : List Int) (ha : acc.length ≤ 1000) (i h : Int) (hi : 0 ≤ i) : ∃ l n, Ev (fun k => (spec_l1Once.f s i h 12).bind fun bt462 => (if bt462.1 = true then ((spec_l1PickInt.f s bt462.2.1 bt462.2.2 (([0, 61, (-1)] : List Int))).bind fun bt468 => (if acc.length < 17592186044416 then ((spec_l1Below.f s bt468.2.1 bt468.2.2 60).bind fun bt474 => ((spec_l1Below.f s bt474.2.1 bt474.2.2 60).bind fun bt477 => ((spec_l1PickInt.f s bt477.2.1 bt477.2.2 (([bt474.1, bt477.1, 999999, (-1), 1000001, 3601] : List Int))).bind fun bt483 => (some ((acc ++ [bt468.1]), bt483.1))))) else (none))) else ((spec_l1Below.f s bt462.2.1 bt462.2.2 60).bind fun bt486 => ((spec_l1Below.f s bt486.2.1 bt486.2.2 60).bind fun bt489 => ((spec_l1PickInt.f s bt489.2.1 bt489.2.2 (([bt486.1, bt489.1, 999999, (-1), 1000001, 3601] : List Int))).bind fun bt495 => (some (acc, bt495.1))))))) (l, n) ∧ l.length ≤ 1001 := by
  obtain ⟨b, i1, h1, e1, hi1⟩ := spec_l1Once.eq s hs i hi h 12 (by omega)
  by_cases c : b = true
  · obtain ⟨x, i2, h2, e2, hx, hi2⟩ := spec_l1PickInt.eq s hs i1 hi1 h1 [0, 61, (-1)] (by simp)
    obtain ⟨y, i3, h3, e3, hy, hi3⟩ := spec_l1Below.eq s hs i2 hi2 h2 60 (by omega)
    obtain ⟨z, i4, h4, e4, hz, hi4⟩ := spec_l1Below.eq s hs i3 hi3 h3 60 (by omega)
    obtain ⟨n, i5, h5, e5, hn, hi5⟩ := spec_l1PickInt.eq s hs i4 hi4 h4 [y, z, 999999, (-1), 1000001, 3601] (by simp)
    refine ⟨acc ++ [x], n, ?_, by rw [List.length_append, List.length_singleton]; omega⟩
    rw [e1]
    simp only [Option.bind_some]
    refine ev_pos c ?_
    rw [e2]
    simp only [Option.bind_some]
    refine ev_pos (by omega) ?_
    rw [e3]
    simp only [Option.bind_some]
    rw [e4]
    simp only [Option.bind_some]
    rw [e5]
    exact Ev.now _
  · obtain ⟨y, i3, h3, e3, hy, hi3⟩ := spec_l1Below.eq s hs i1 hi1 h1 60 (by omega)
    obtain ⟨z, i4, h4, e4, hz, hi4⟩ := spec_l1Below.eq s hs i3 hi3 h3 60 (by omega)
    obtain ⟨n, i5, h5, e5, hn, hi5⟩ := spec_l1PickInt.eq s hs i4 hi4 h4 [y, z, 999999, (-1), 1000001, 3601] (by simp)
    refine ⟨acc, n, ?_, by omega⟩
    rw [e1]
    simp only [Option.bind_some]
    refine ev_neg c ?_
    rw [e3]
    simp only [Option.bind_some]
    rw [e4]
    simp only [Option.bind_some]
    rw [e5]
    exact Ev.now _
theorem spec_DrawGenerates.l0_ev (s : List Int) (hs : s.length < 4611686018427387904) (n : Int) (hn : n ≤ 900) : ∀ (d j : Nat) (acc : List Int) (i h : Int), 0 ≤ i → acc.length = j → n ≤ (j : Int) + d → j + d ≤ 1000 → ∃ l m, Ev (fun k => spec_DrawGenerates.l0 k acc n (j : Int) s i h) (l, m) ∧ l.length ≤ 1001 := by
  intro d
  induction d with
  | zero =>
    intro j acc i h hi h1 h2 h3
    obtain ⟨l, m, e, hl⟩ := spec_DrawGenerates.end_ev s hs acc (by omega) i h hi
    refine ⟨l, m, Ev.step (fun k => by rw [spec_DrawGenerates.l0]) ?_, hl⟩
    exact ev_neg (by omega) e
  | succ d ih =>
    intro j acc i h hi h1 h2 h3
    by_cases c : (j : Int) < n
    · obtain ⟨x, i1, h1', e1, hx, hi1⟩ := spec_l1Below.eq s hs i hi h 15 (by omega)
      obtain ⟨l, m, e2, hl⟩ := ih (j + 1) (acc ++ [wrap64 (1 + x)]) i1 h1' hi1 (by rw [List.length_append, List.length_singleton]; omega) (by omega) (by omega)
      refine ⟨l, m, Ev.step (fun k => by rw [spec_DrawGenerates.l0]) ?_, hl⟩
      rw [e1, wadd1 (j := j) (by omega)]
      simp only [Option.bind_some]
      exact ev_pos c (ev_pos (by omega) e2)
    · obtain ⟨l, m, e, hl⟩ := spec_DrawGenerates.end_ev s hs acc (by omega) i h hi
      refine ⟨l, m, Ev.step (fun k => by rw [spec_DrawGenerates.l0]) ?_, hl⟩
      exact ev_neg c e
theorem spec_DrawGenerates.ev (l : List Int) (hl : l.length < 4611686018427387904) : ∃ g n, Ev (fun k => spec_DrawGenerates.f k l) (g, n) ∧ g.length ≤ 1001 := by
  obtain ⟨h, hh⟩ := spec_l1New.ev l hl
  obtain ⟨a, i1, h1, e1, ha, hi1⟩ := spec_l1Below.eq l hl 0 (by omega) h 3 (by omega)
  have hw : wrap64 (1 + a) = 1 + a := w64 (by omega) (by omega)
  obtain ⟨g, n, e2, hg⟩ := spec_DrawGenerates.l0_ev l hl (1 + a) (by omega) 10 0 [] i1 h1 hi1 rfl (by omega) (by omega)
  refine ⟨g, n, ?_, hg⟩
  unfold spec_DrawGenerates.f
  refine Ev.bind hh ?_
  simp only []
  rw [e1]
  simp only [Option.bind_some, hw]
  exact e2

/-! spec_FromGens -/
theorem spec_FromGens.ev (l : List Int) (hl : l.length ≤ 1048576) : ∃ r, Ev (fun k => spec_FromGens.f k l) r ∧ GeV l r := by
  unfold spec_FromGens.f
  by_cases ho : GeOk l
  · obtain ⟨s, h1, h2, h3⟩ := spec_l3Minimal.ev l (fun x hx => by have := ho.1 x hx; omega) (by omega)
    have hm : (minV s).length ≤ 1048576 := by
      have := minK_length s s.length
      have e : (minV s).length ≤ s.length := this
      omega
    by_cases hs : SG (minV s)
    · refine ⟨(minV s, true), Ev.bind (spec_l3Gens.ev l (by omega)) ?_, .inl ⟨s, h1, ho, hs, rfl⟩⟩
      rw [B_true (show (∀ x ∈ l, 1 ≤ x ∧ x ≤ 60) ∧ 1 ≤ l.length ∧ l.length ≤ 20 from ho)]
      refine ev_pos rfl (Ev.bind h3 (Ev.bind (spec_IsSemigroup.ev _ hm) ?_))
      rw [B_true hs]
      exact ev_pos rfl (Ev.now _)
    · refine ⟨([], false), Ev.bind (spec_l3Gens.ev l (by omega)) ?_, .inr ⟨?_, rfl⟩⟩
      · rw [B_true (show (∀ x ∈ l, 1 ≤ x ∧ x ≤ 60) ∧ 1 ≤ l.length ∧ l.length ≤ 20 from ho)]
        refine ev_pos rfl (Ev.bind h3 (Ev.bind (spec_IsSemigroup.ev _ hm) ?_))
        rw [B_false hs]
        exact ev_neg (by simp) (Ev.now _)
      · rintro ⟨t, t1, t2, t3⟩
        rw [t1.unique h1] at t3
        exact hs t3
  · refine ⟨([], false), Ev.bind (spec_l3Gens.ev l (by omega)) ?_, .inr ⟨?_, rfl⟩⟩
    · rw [B_false (show ¬ ((∀ x ∈ l, 1 ≤ x ∧ x ≤ 60) ∧ 1 ≤ l.length ∧ l.length ≤ 20) from ho)]
      exact ev_neg (by simp) (Ev.now _)
    · rintro ⟨t, t1, t2, t3⟩
      exact ho t2
theorem spec_FromGens.sg (g : List Int) (h : SG g) : Ev (fun k => spec_FromGens.f k g) (g, true) := by
  obtain ⟨r, hr, hv⟩ := spec_FromGens.ev g (by have := h.1; omega)
  have ho : GeOk g := ⟨h.2.1, by have := h.1; omega, by have := h.1; omega⟩
  have := hv.of h ho (fun _ => Iff.rfl) (IsSort.self h.2.2.1)
  rwa [this] at hr

/-! spec_l3List -/
theorem spec_l3List.eq (s : List Int) (hs : s.length < 4611686018427387904) (i : Int) (hi : 0 ≤ i) (h : Int) : ∃ g i' h', spec_l3List.f s i h = some (g, i', h') ∧ g ∈ drawn8 ∧ 0 ≤ i' := by
  obtain ⟨x, i1, h1, e1, hx, hi1⟩ := spec_l1Below.eq s hs i hi h 8 (by omega)
  unfold spec_l3List.f
  rw [e1]
  simp only [Option.bind_some]
  unfold drawn8
  (repeat' split) <;> exact ⟨_, _, _, rfl, by simp, hi1⟩

/-! spec_l3Draw -/
theorem spec_l3Draw.list_ev (s : List Int) (hs : s.length < 4611686018427387904) (i : Int) (hi : 0 ≤ i) (h : Int) : ∃ g i' h', Ev (fun k => (spec_l3List.f s i h).bind fun bt => ((spec_FromGens.f k bt.1).bind fun bu => (some (bu.1, bt.2.1, bt.2.2)))) (g, i', h') ∧ SG g ∧ 0 ≤ i' := by
  obtain ⟨g, i1, h1, e1, hg, hi1⟩ := spec_l3List.eq s hs i hi h
  rw [e1]
  simp only [Option.bind_some]
  exact ⟨g, i1, h1, Ev.bind (spec_FromGens.sg g (drawn8_sg hg)) (Ev.now _), drawn8_sg hg, hi1⟩
theorem spec_l3Draw.l1_ev (s : List Int) (hs : s.length < 4611686018427387904) (q : Int) (n : Int) (hn : n ≤ 1000) (hq : ∀ i h, 0 ≤ i → ∃ g i' h', Ev (fun k => spec_l3Draw.l0 k (wrap64 (q + 1)) s i h) (g, i', h') ∧ SG g ∧ 0 ≤ i') : ∀ (d j : Nat) (l : List Int) (i h : Int), 0 ≤ i → 1 ≤ l.length → l.length ≤ j + 1 → j ≤ 1000 → n ≤ (j : Int) + d → ∃ g i' h', Ev (fun k => spec_l3Draw.l1 k q l n (j : Int) s i h) (g, i', h') ∧ SG g ∧ 0 ≤ i' := by
  intro d
  induction d with
  | zero =>
    intro j l i h h1 h2 h3 h4 h5
    obtain ⟨r, hr, hv⟩ := spec_FromGens.ev l (by omega)
    by_cases hb : r.2 = true
    · refine ⟨r.1, i, h, Ev.step (fun k => by rw [spec_l3Draw.l1]) ?_, hv.sg hb, h1⟩
      exact ev_neg (by omega) (Ev.bind hr (ev_pos hb (Ev.now _)))
    · obtain ⟨g, i', h', e, e2, e3⟩ := hq i h h1
      refine ⟨g, i', h', Ev.step (fun k => by rw [spec_l3Draw.l1]) ?_, e2, e3⟩
      exact ev_neg (by omega) (Ev.bind hr (ev_neg hb e))
  | succ d ih =>
    intro j l i h h1 h2 h3 h4 h5
    by_cases c : (j : Int) < n
    · obtain ⟨x, i1, y1, e1, hx, hi1⟩ := spec_l1Below.eq s hs i h1 h 12 (by omega)
      obtain ⟨g, i', h', e, e2, e3⟩ := ih (j + 1) (l ++ [wrap64 ((wrap64 ((rd l 0) + 1)) + x)]) i1 y1 hi1 (by simp) (by simp; omega) (by omega) (by omega)
      refine ⟨g, i', h', Ev.step (fun k => by rw [spec_l3Draw.l1]) ?_, e2, e3⟩
      rw [e1, wadd1 (j := j) (by omega)]
      exact ev_pos c (ev_pos (by omega) (ev_pos (by omega) e))
    · obtain ⟨r, hr, hv⟩ := spec_FromGens.ev l (by omega)
      by_cases hb : r.2 = true
      · refine ⟨r.1, i, h, Ev.step (fun k => by rw [spec_l3Draw.l1]) ?_, hv.sg hb, h1⟩
        exact ev_neg c (Ev.bind hr (ev_pos hb (Ev.now _)))
      · obtain ⟨g, i', h', e, e2, e3⟩ := hq i h h1
        refine ⟨g, i', h', Ev.step (fun k => by rw [spec_l3Draw.l1]) ?_, e2, e3⟩
        exact ev_neg c (Ev.bind hr (ev_neg hb e))
theorem spec_l3Draw.l0_ev (s : List Int) (hs : s.length < 4611686018427387904) : ∀ (d q : Nat), q + d = 4 → ∀ (i h : Int), 0 ≤ i → ∃ g i' h', Ev (fun k => spec_l3Draw.l0 k (q : Int) s i h) (g, i', h') ∧ SG g ∧ 0 ≤ i' := by
  intro d
  induction d with
  | zero =>
    intro q hq i h hi
    obtain ⟨g, i', h', e, e2, e3⟩ := spec_l3Draw.list_ev s hs i hi h
    refine ⟨g, i', h', Ev.step (fun k => by rw [spec_l3Draw.l0]) ?_, e2, e3⟩
    exact ev_neg (by omega) e
  | succ d ih =>
    intro q hq i h hi
    obtain ⟨x, i1, y1, e1, hx, hi1⟩ := spec_l1Below.eq s hs i hi h 8 (by omega)
    obtain ⟨y, i2, y2, e2, hy, hi2⟩ := spec_l1Below.eq s hs i1 hi1 y1 4 (by omega)
    have w1 : wrap64 (1 + y) = 1 + y := w64 (by omega) (by omega)
    obtain ⟨g, i', h', e, e4, e5⟩ := spec_l3Draw.l1_ev s hs (q : Int) (1 + y) (by omega) (fun i h hi => by
      have := ih (q + 1) (by omega) i h hi
      rwa [← wadd1 (j := q) (by omega)] at this) 5 0 [wrap64 (2 + x)] i2 y2 hi2 (by simp) (by simp) (by omega) (by omega)
    refine ⟨g, i', h', Ev.step (fun k => by rw [spec_l3Draw.l0]) ?_, e4, e5⟩
    rw [e1]
    simp only [Option.bind_some]
    rw [e2]
    simp only [Option.bind_some]
    rw [w1]
    exact ev_pos (by omega) e
theorem spec_l3Draw.ev (s : List Int) (hs : s.length < 4611686018427387904) (i : Int) (hi : 0 ≤ i) (h : Int) : ∃ g i' h', Ev (fun k => spec_l3Draw.f k s i h) (g, i', h') ∧ SG g ∧ 0 ≤ i' := by
  obtain ⟨b, i1, h1, e1, hi1⟩ := spec_l1Once.eq s hs i hi h 4 (by omega)
  unfold spec_l3Draw.f
  rw [e1]
  simp only [Option.bind_some]
  cases b with
  | true =>
    obtain ⟨g, i', h', e, e2, e3⟩ := spec_l3Draw.list_ev s hs i1 hi1 h1
    exact ⟨g, i', h', ev_pos rfl e, e2, e3⟩
  | false =>
    obtain ⟨g, i', h', e, e2, e3⟩ := spec_l3Draw.l0_ev s hs 4 0 (by omega) i1 h1 hi1
    exact ⟨g, i', h', ev_neg (by simp) e, e2, e3⟩

/-! spec_l3Bent -/
theorem spec_l3Bent.ev (s : List Int) (hs : s.length < 4611686018427387904) (i : Int) (hi : 0 ≤ i) (h : Int) : ∃ g i' h', Ev (fun k => spec_l3Bent.f k s i h) (g, i', h') ∧ g.length ≤ 100 ∧ 0 ≤ i' := by
  obtain ⟨g, i1, h1, e1, hg, hi1⟩ := spec_l3Draw.ev s hs i hi h
  have hgl := hg.1
  obtain ⟨x, i2, h2, e2, hx, hi2⟩ := spec_l1Below.eq s hs i1 hi1 h1 12 (by omega)
  unfold spec_l3Bent.f
  by_cases c0 : x = 0
  · obtain ⟨y, i3, h3, e3, hy, hi3⟩ := spec_l1PickInt.eq s hs i2 hi2 h2 [0, 61, 12, (-3), 60] (by simp)
    refine ⟨g ++ [y], i3, h3, Ev.bind e1 ?_, by simp; omega, hi3⟩
    simp only []
    rw [e2]
    simp only [Option.bind_some]
    rw [if_pos c0, e3]
    exact ev_pos (by omega) (Ev.now _)
  by_cases c1 : x = 1
  · refine ⟨g.drop 1, i2, h2, Ev.bind e1 ?_, by simp; omega, hi2⟩
    simp only []
    rw [e2]
    simp only [Option.bind_some]
    rw [if_neg c0, if_pos c1]
    exact ev_pos (by omega) (Ev.now _)
  by_cases c2 : x = 2
  · obtain ⟨y, i3, h3, e3, hy, hi3⟩ := spec_l1PickInt.eq s hs i2 hi2 h2 [0, 59, 4] (by simp)
    refine ⟨[y, 60], i3, h3, Ev.bind e1 ?_, by simp, hi3⟩
    simp only []
    rw [e2]
    simp only [Option.bind_some]
    rw [if_neg c0, if_neg c1, if_pos c2, e3]
    exact Ev.now _
  · refine ⟨g, i2, h2, Ev.bind e1 ?_, by omega, hi2⟩
    simp only []
    rw [e2]
    simp only [Option.bind_some]
    rw [if_neg c0, if_neg c1, if_neg c2]
    exact Ev.now _

/-! spec_DrawContains -/
theorem spec_DrawContains.ev (l : List Int) (hl : l.length < 4611686018427387904) : ∃ g n, Ev (fun k => spec_DrawContains.f k l) (g, n) ∧ g.length ≤ 100 := by
  obtain ⟨h, hh⟩ := spec_l1New.ev l hl
  obtain ⟨g, i1, h1, e1, hg, hi1⟩ := spec_l3Bent.ev l hl 0 (by omega) h
  obtain ⟨a, i2, h2, e2, ha, hi2⟩ := spec_l1Below.eq l hl i1 hi1 h1 60 (by omega)
  obtain ⟨b, i3, h3, e3, hb, hi3⟩ := spec_l1Below.eq l hl i2 hi2 h2 60 (by omega)
  obtain ⟨c, i4, h4, e4, hc, hi4⟩ := spec_l1Below.eq l hl i3 hi3 h3 200 (by omega)
  obtain ⟨n, i5, h5, e5, hn, hi5⟩ := spec_l1PickInt.eq l hl i4 hi4 h4 [a, b, c, (-1), 200, 9223372036854775807] (by simp)
  refine ⟨g, n, ?_, hg⟩
  unfold spec_DrawContains.f
  refine Ev.bind hh (Ev.bind e1 ?_)
  simp only []
  rw [e2]
  simp only [Option.bind_some]
  rw [e3]
  simp only [Option.bind_some]
  rw [e4]
  simp only [Option.bind_some]
  rw [e5]
  exact Ev.now _

/-! spec_DrawIsSemigroup -/
theorem spec_DrawIsSemigroup.ev (l : List Int) (hl : l.length < 4611686018427387904) : ∃ g, Ev (fun k => spec_DrawIsSemigroup.f k l) g ∧ g.length ≤ 100 := by
  obtain ⟨h, hh⟩ := spec_l1New.ev l hl
  obtain ⟨g, i1, h1, e1, hg, hi1⟩ := spec_l3Bent.ev l hl 0 (by omega) h
  refine ⟨g, ?_, hg⟩
  unfold spec_DrawIsSemigroup.f
  exact Ev.bind hh (Ev.bind e1 (Ev.now _))

/-! spec_DrawFromGens -/
theorem spec_DrawFromGens.ev (l : List Int) (hl : l.length < 4611686018427387904) : ∃ g, Ev (fun k => spec_DrawFromGens.f k l) g ∧ g.length ≤ 1001 := by
  obtain ⟨g, n, hr, hz⟩ := spec_DrawGenerates.ev l hl
  refine ⟨g, ?_, hz⟩
  unfold spec_DrawFromGens.f
  exact Ev.bind hr (Ev.now _)

/-! impl_within -/
theorem impl_within.eq (a b c : Int) : impl_within.f a b c = some (decide (b ≤ a ∧ a ≤ c)) := by
  unfold impl_within.f
  by_cases h : b ≤ a <;> simp [h]

/-! impl_allWithin -/
theorem impl_allWithin.l0_ev (l : List Int) (lo hi : Int) (hl : l.length < 4611686018427387904) : ∀ (d j : Nat), j + d = l.length → Ev (fun k => impl_allWithin.l0 k lo hi l (l.length : Int) (j : Int)) (B (∀ x ∈ l.drop j, lo ≤ x ∧ x ≤ hi)) := by
  intro d
  induction d with
  | zero =>
    intro j h1
    refine Ev.step (fun k => by rw [impl_allWithin.l0]) ?_
    rw [B_true (by rw [List.drop_of_length_le (by omega)]; simp)]
    exact ev_neg (by omega) (Ev.now _)
  | succ d ih =>
    intro j h1
    have hj : j < l.length := by omega
    refine Ev.step (fun k => by rw [impl_allWithin.l0]) ?_
    rw [wadd1 (by omega), rd_nat, getD_get hj, List.drop_eq_getElem_cons hj, impl_within.eq]
    simp only [Option.bind_some]
    refine ev_pos (by omega) (ev_pos (by omega) (ev_pos (by omega) ?_))
    by_cases e : lo ≤ l[j] ∧ l[j] ≤ hi
    · refine ev_pos (decide_eq_true e) ?_
      rw [B_congr (q := ∀ x ∈ l.drop (j + 1), lo ≤ x ∧ x ≤ hi) (by simp only [List.forall_mem_cons, e.1, e.2, and_self, true_and])]
      exact ih (j + 1) (by omega)
    · refine ev_neg (by simpa using e) ?_
      rw [B_false (fun h => e (h _ List.mem_cons_self))]
      exact Ev.now _
theorem impl_allWithin.ev (l : List Int) (lo hi : Int) (hl : l.length < 4611686018427387904) : Ev (fun k => impl_allWithin.f k l lo hi) (B (∀ x ∈ l, lo ≤ x ∧ x ≤ hi)) := by
  unfold impl_allWithin.f
  exact impl_allWithin.l0_ev l lo hi hl l.length 0 (by omega)

/-! impl_usable -/
theorem impl_usable.ev (l : List Int) (hl : l.length < 4611686018427387904) : Ev (fun k => impl_usable.f k l) (B ((∀ x ∈ l, 1 ≤ x ∧ x ≤ 60) ∧ 1 ≤ l.length ∧ l.length ≤ 20)) := by
  unfold impl_usable.f
  simp only [impl_within.eq, Option.bind_some]
  by_cases c : 1 ≤ (l.length : Int) ∧ (l.length : Int) ≤ 20
  · refine ev_pos (decide_eq_true c) ?_
    rw [B_congr (q := ∀ x ∈ l, 1 ≤ x ∧ x ≤ 60) ⟨fun h => h.1, fun h => ⟨h, by omega⟩⟩]
    exact Ev.bind (impl_allWithin.ev l 1 60 hl) (Ev.now _)
  · refine ev_neg (by simpa using c) ?_
    rw [B_false (fun h => c (by omega))]
    exact Ev.now _

/-! impl_leasts -/
theorem impl_leasts.l3_ev (g : List Int) (a : Nat) (ha : 1 ≤ a) (ha' : a ≤ 60) (hg : ∀ x ∈ g, 1 ≤ x ∧ x ≤ 60) (hgl : g.length ≤ 1000) (r : Nat) (hr : r < a) (n : Int) (hn : 0 ≤ n) (c : Int)
    (cont : ∀ L ch, LInv g a L → (ch = true → costL L < c) → (ch = false → costL L ≤ c ∧ ∀ r', r' < r + 1 → Relaxed g a L r') → ∃ out, Ev (fun k => impl_leasts.l2 k g (a : Int) L ch (a : Int) ((r + 1 : Nat) : Int)) out ∧ LGood g a out) :
    ∀ (d j : Nat) (L : List Int) (ch : Bool), j + d = g.length → LInv g a L → L.getD r 0 = n → (ch = true → costL L < c) → (ch = false → costL L ≤ c ∧ (∀ r', r' < r → Relaxed g a L r') ∧ RelaxedTo g a L r j) →
      ∃ out, Ev (fun k => impl_leasts.l3 k g (a : Int) L ch (r : Int) n (a : Int) (r : Int) g (g.length : Int) (j : Int)) out ∧ LGood g a out := by
  intro d
  induction d with
  | zero =>
    intro j L ch h1 h2 h3 h4 h5
    obtain ⟨out, ho, hg'⟩ := cont L ch h2 h4 (fun e => ⟨(h5 e).1, fun r' hr' => by
      by_cases e2 : r' = r
      · subst e2
        intro _ x hx
        have := (h5 e).2.2
        unfold RelaxedTo at this
        rw [List.take_of_length_le (by omega)] at this
        exact this x hx
      · exact (h5 e).2.1 r' (by omega)⟩)
    refine ⟨out, Ev.step (fun k => by rw [impl_leasts.l3]) ?_, hg'⟩
    refine ev_neg (by omega) ?_
    rw [wadd1 (by omega)]
    exact ho
  | succ d ih =>
    intro j L ch h1 h2 h3 h4 h5
    have hj : j < g.length := by omega
    have hxm := List.getElem_mem hj
    have hx := hg _ hxm
    have hb := h2.bound ha' hr
    have hL := h2.1
    have m0 := Int.emod_nonneg ((r : Int) + g[j]) (show (a : Int) ≠ 0 by omega)
    have m1 := Int.emod_lt_of_pos ((r : Int) + g[j]) (show (0 : Int) < (a : Int) by omega)
    obtain ⟨t, ht⟩ : ∃ t : Nat, ((r : Int) + g[j]) % (a : Int) = (t : Int) := ⟨(((r : Int) + g[j]) % (a : Int)).toNat, by omega⟩
    have e1 : wrap64 ((r : Int) + g[j]) = (r : Int) + g[j] := w64 (by omega) (by omega)
    have e2 : Int.tmod ((r : Int) + g[j]) (a : Int) = (t : Int) := by rw [Int.tmod_eq_emod_of_nonneg (by omega), ht]
    have e3 : wrap64 (n + g[j]) = n + g[j] := w64 (by omega) (by omega)
    have hta : t < a := by omega
    by_cases hl : L.getD t 0 < 0 ∨ n + g[j] < L.getD t 0
    · obtain ⟨s1, s2, _, s4⟩ := h2.step ha ha' hr (by omega) hxm hx.1 hx.2 ht (by rw [h3]; exact hl)
      rw [h3] at s1 s2
      obtain ⟨out, ho, hg'⟩ := ih (j + 1) (L.set t (n + g[j])) true (by omega) s1 (by rw [getD_set, if_neg (fun hh => s4 hh.1)]; exact h3) (fun _ => by
        cases ch with
        | true => have := h4 rfl; omega
        | false => have := (h5 rfl).1; omega) (fun e => by cases e)
      refine ⟨out, Ev.step (fun k => by rw [impl_leasts.l3]) ?_, hg'⟩
      rw [wadd1 (by omega), rd_nat, getD_get hj, e1, e2, e3, rd_nat, Int.toNat_natCast]
      refine ev_pos (by omega) (ev_pos (by omega) (ev_pos (by omega) (ev_neg (by omega) (ev_pos (by omega) (ev_pos (by omega) ?_)))))
      by_cases hn' : L.getD t 0 < 0
      · exact ev_pos hn' ho
      · exact ev_neg hn' (ev_pos (by omega) ho)
    · obtain ⟨out, ho, hg'⟩ := ih (j + 1) L ch (by omega) h2 h3 h4 (fun e => ⟨(h5 e).1, (h5 e).2.1, fun x hx' => by
        rw [List.take_succ_eq_append_getElem hj] at hx'
        rcases List.mem_append.1 hx' with hx' | hx'
        · exact (h5 e).2.2 x hx'
        · obtain rfl := List.mem_singleton.1 hx'
          unfold RelaxedAt
          rw [ht, Int.toNat_natCast]
          omega⟩)
      refine ⟨out, Ev.step (fun k => by rw [impl_leasts.l3]) ?_, hg'⟩
      rw [wadd1 (by omega), rd_nat, getD_get hj, e1, e2, e3, rd_nat, Int.toNat_natCast]
      exact ev_pos (by omega) (ev_pos (by omega) (ev_pos (by omega) (ev_neg (by omega) (ev_pos (by omega) (ev_pos (by omega) (ev_neg (by omega) (ev_neg (by omega) ho)))))))
theorem impl_leasts.l2_ev (g : List Int) (a : Nat) (ha : 1 ≤ a) (ha' : a ≤ 60) (hg : ∀ x ∈ g, 1 ≤ x ∧ x ≤ 60) (hgl : g.length ≤ 1000) (c : Int)
    (cont : ∀ L, LInv g a L → costL L < c → ∃ out, Ev (fun k => impl_leasts.l1 k g (a : Int) L true) out ∧ LGood g a out) :
    ∀ (d r : Nat) (L : List Int) (ch : Bool), r + d = a → LInv g a L → (ch = true → costL L < c) → (ch = false → costL L ≤ c ∧ ∀ r', r' < r → Relaxed g a L r') →
      ∃ out, Ev (fun k => impl_leasts.l2 k g (a : Int) L ch (a : Int) (r : Int)) out ∧ LGood g a out := by
  intro d
  induction d with
  | zero =>
    intro r L ch h1 h2 h3 h4
    cases ch with
    | true =>
      obtain ⟨out, ho, hg'⟩ := cont L h2 (h3 rfl)
      refine ⟨out, Ev.step (fun k => by rw [impl_leasts.l2]) ?_, hg'⟩
      exact ev_neg (by omega) ho
    | false =>
      refine ⟨L, Ev.step (fun k => by rw [impl_leasts.l2]) ?_, h2, fun r' hr' => (h4 rfl).2 r' (by omega)⟩
      refine ev_neg (by omega) ?_
      refine Ev.step (fun k => by rw [impl_leasts.l1]) ?_
      exact ev_neg (by simp) (Ev.now _)
  | succ d ih =>
    intro r L ch h1 h2 h3 h4
    have hL := h2.1
    by_cases hneg : L.getD r 0 < 0
    · obtain ⟨out, ho, hg'⟩ := ih (r + 1) L ch (by omega) h2 h3 (fun e => ⟨(h4 e).1, fun r' hr' => by
        by_cases e2 : r' = r
        · subst e2; intro h0; omega
        · exact (h4 e).2 r' (by omega)⟩)
      refine ⟨out, Ev.step (fun k => by rw [impl_leasts.l2]) ?_, hg'⟩
      rw [rd_nat, wadd1 (by omega)]
      exact ev_pos (by omega) (ev_pos (by omega) (ev_pos (by omega) (ev_pos hneg ho)))
    · obtain ⟨out, ho, hg'⟩ := impl_leasts.l3_ev g a ha ha' hg hgl r (by omega) (L.getD r 0) (by omega) c (fun L' ch' i1 i2 i3 => ih (r + 1) L' ch' (by omega) i1 i2 i3) g.length 0 L ch (by omega) h2 rfl h3 (fun e => ⟨(h4 e).1, (h4 e).2, fun x hx => by simp at hx⟩)
      refine ⟨out, Ev.step (fun k => by rw [impl_leasts.l2]) ?_, hg'⟩
      rw [rd_nat]
      exact ev_pos (by omega) (ev_pos (by omega) (ev_pos (by omega) (ev_neg hneg ho)))
theorem impl_leasts.l1_ev (g : List Int) (a : Nat) (ha : 1 ≤ a) (ha' : a ≤ 60) (hg : ∀ x ∈ g, 1 ≤ x ∧ x ≤ 60) (hgl : g.length ≤ 1000) :
    ∀ (c : Nat) (L : List Int), LInv g a L → costL L ≤ c → ∃ out, Ev (fun k => impl_leasts.l1 k g (a : Int) L true) out ∧ LGood g a out := by
  intro c
  induction c with
  | zero =>
    intro L h1 h2
    have hL := h1.1
    obtain ⟨out, ho, hg'⟩ := impl_leasts.l2_ev g a ha ha' hg hgl 0 (fun L' _ h => by have := costL_nonneg L'; omega) a 0 L false (by omega) h1 (fun e => by cases e) (fun _ => ⟨by omega, fun r' hr' => by omega⟩)
    refine ⟨out, Ev.step (fun k => by rw [impl_leasts.l1]) ?_, hg'⟩
    refine ev_pos rfl ?_
    rw [hL]; exact ho
  | succ c ih =>
    intro L h1 h2
    have hL := h1.1
    obtain ⟨out, ho, hg'⟩ := impl_leasts.l2_ev g a ha ha' hg hgl ((c : Int) + 1) (fun L' i1 i2 => ih L' i1 (by omega)) a 0 L false (by omega) h1 (fun e => by cases e) (fun _ => ⟨by omega, fun r' hr' => by omega⟩)
    refine ⟨out, Ev.step (fun k => by rw [impl_leasts.l1]) ?_, hg'⟩
    refine ev_pos rfl ?_
    rw [hL]; exact ho
theorem impl_leasts.l0_ev (g : List Int) (a : Nat) (ha : 1 ≤ a) (ha' : a ≤ 60) (hg : ∀ x ∈ g, 1 ≤ x ∧ x ≤ 60) (hgl : g.length ≤ 1000) :
    ∀ (d j : Nat) (T : List Int), j + d = a → T.length = a → (∀ i, i < j → T.getD i 0 = -1) → ∃ out, Ev (fun k => impl_leasts.l0 k g (a : Int) T (a : Int) (j : Int)) out ∧ LGood g a out := by
  intro d
  induction d with
  | zero =>
    intro j T h1 h2 h3
    have e : T = List.replicate a (-1) := by
      apply List.ext_getElem (by simp [h2])
      intro i i1 i2
      have := h3 i (by omega)
      rw [getD_get i1] at this
      rw [this]; simp
    obtain ⟨out, ho, hg'⟩ := impl_leasts.l1_ev g a ha ha' hg hgl (costL ((List.replicate a (-1 : Int)).set 0 0)).toNat _ (LInv.init ha) (by have := costL_nonneg ((List.replicate a (-1 : Int)).set 0 0); omega)
    refine ⟨out, Ev.step (fun k => by rw [impl_leasts.l0]) ?_, hg'⟩
    refine ev_neg (by omega) (ev_pos (by omega) ?_)
    rw [e]; exact ho
  | succ d ih =>
    intro j T h1 h2 h3
    obtain ⟨out, ho, hg'⟩ := ih (j + 1) (T.set j (-1)) (by omega) (by simp [h2]) (fun i hi => by
      rw [getD_set]
      by_cases e : j = i ∧ i < T.length
      · rw [if_pos e]
      · rw [if_neg e]; exact h3 i (by omega))
    refine ⟨out, Ev.step (fun k => by rw [impl_leasts.l0]) ?_, hg'⟩
    refine ev_pos (by omega) (ev_pos (by omega) (ev_pos (by omega) ?_))
    rw [wadd1 (by omega), Int.toNat_natCast]
    exact ho
theorem impl_leasts.ev (g : List Int) (a : Nat) (ha : 1 ≤ a) (ha' : a ≤ 60) (hg : ∀ x ∈ g, 1 ≤ x ∧ x ≤ 60) (hgl : g.length ≤ 1000) : ∃ L, Ev (fun k => impl_leasts.f k g (a : Int)) L ∧ IsLeasts g a L := by
  obtain ⟨out, ho, hg'⟩ := impl_leasts.l0_ev g a ha ha' hg hgl a 0 (List.replicate a 0) (by omega) (by simp) (fun i hi => by omega)
  refine ⟨out, ?_, hg'.isLeasts ha ha' hg⟩
  unfold impl_leasts.f
  refine ev_pos (by omega) (ev_pos (by omega) ?_)
  simp only [Option.bind_some, Int.toNat_natCast, List.length_replicate]
  exact ho

/-! impl_Generates -/
theorem impl_Generates.ev (l : List Int) (n : Int) (hl : l.length < 4611686018427387904) : Ev (fun k => impl_Generates.f k l n) (genV l n) := by
  unfold impl_Generates.f genV
  refine Ev.bind (impl_usable.ev l hl) ?_
  simp only [impl_within.eq, Option.bind_some]
  by_cases c : (∀ x ∈ l, 1 ≤ x ∧ x ≤ 60) ∧ 1 ≤ l.length ∧ l.length ≤ 20
  · rw [B_true c]
    refine ev_pos rfl ?_
    by_cases c2 : 0 ≤ n ∧ n ≤ 1000000
    · refine ev_pos (decide_eq_true c2) (ev_pos (by omega) ?_)
      have hm : l.getD 0 0 ∈ l := getD_mem (by omega)
      have hr := c.1 _ hm
      obtain ⟨a, ha⟩ : ∃ a : Nat, (a : Int) = l.getD 0 0 := ⟨(l.getD 0 0).toNat, by omega⟩
      have e0 : Box (rd l 0 = (a : Int)) := ⟨by rw [ha]; simp [rd]⟩
      rw [← ha] at hm hr
      obtain ⟨L, hL, hI⟩ := impl_leasts.ev l a (by omega) (by omega) c.1 (by omega)
      have hLl := hI.1
      have m0 := Int.emod_nonneg n (show (a : Int) ≠ 0 by omega)
      have m1 := Int.emod_lt_of_pos n (show (0 : Int) < (a : Int) by omega)
      have e1 : Box (Int.tmod n (a : Int) = n % (a : Int)) := ⟨Int.tmod_eq_emod_of_nonneg c2.1⟩
      have e2 : Box (rd L (n % (a : Int)) = L.getD (n % (a : Int)).toNat 0) := ⟨rfl⟩
      have hgen := hI.gen hm (by omega) n
      rw [e0.out]
      refine Ev.bind hL ?_
      rw [e1.out, e2.out]
      refine ev_neg (by omega) (ev_pos (by omega) (ev_pos (by omega) ?_))
      by_cases c3 : L.getD (n % (a : Int)).toNat 0 ≥ 0
      · refine ev_pos c3 ?_
        rw [B_dec, B_congr (q := ((∀ x ∈ l, 1 ≤ x ∧ x ≤ 60) ∧ 1 ≤ l.length ∧ l.length ≤ 20) ∧ (0 ≤ n ∧ n ≤ 1000000) ∧ Gen l n) ⟨fun h => ⟨c, c2, hgen.2 ⟨c3, h⟩⟩, fun h => (hgen.1 h.2.2).2⟩]
        exact Ev.now _
      · refine ev_neg c3 ?_
        rw [B_false (fun h => c3 (hgen.1 h.2.2).1)]
        exact Ev.now _
    · refine ev_neg (by simpa using c2) ?_
      rw [B_false (fun h => c2 h.2.1)]
      exact Ev.now _
  · rw [B_false c, B_false (fun h => c h.1)]
    exact ev_neg (by simp) (Ev.now _)

/-! impl_IsAscending -/
theorem impl_IsAscending.l0_ev (l : List Int) (hl : l.length < 4611686018427387904) : ∀ (d j : Nat), l.length ≤ j + 1 + d → Ev (fun k => impl_IsAscending.l0 k l ((j + 1 : Nat) : Int)) (B (∀ i, j ≤ i → i + 1 < l.length → l.getD i 0 < l.getD (i + 1) 0)) := by
  intro d
  induction d with
  | zero =>
    intro j h1
    refine Ev.step (fun k => by rw [impl_IsAscending.l0]) ?_
    rw [B_true (fun i _ _ => by omega)]
    exact ev_neg (by omega) (Ev.now _)
  | succ d ih =>
    intro j h1
    refine Ev.step (fun k => by rw [impl_IsAscending.l0]) ?_
    by_cases hj : j + 1 < l.length
    · have e1 : wrap64 (((j + 1 : Nat) : Int) - 1) = (j : Int) := by rw [w64 (by omega) (by omega)]; omega
      rw [e1, wadd1 (by omega), rd_nat, rd_nat]
      refine ev_pos (by omega) (ev_pos (by omega) (ev_pos (by omega) (ev_pos (by omega) ?_)))
      by_cases e : l.getD (j + 1) 0 ≤ l.getD j 0
      · refine ev_pos e ?_
        rw [B_false (fun h => by have := h j (by omega) hj; omega)]
        exact Ev.now _
      · refine ev_neg e ?_
        rw [B_congr (q := ∀ i, j + 1 ≤ i → i + 1 < l.length → l.getD i 0 < l.getD (i + 1) 0) ⟨fun h i hi => h i (by omega), fun h i hi h2 => by
          by_cases e3 : i = j
          · subst e3; omega
          · exact h i (by omega) h2⟩]
        exact ih (j + 1) (by omega)
    · rw [B_true (fun i _ _ => by omega)]
      exact ev_neg (by omega) (Ev.now _)
theorem impl_IsAscending.ev (l : List Int) (hl : l.length < 4611686018427387904) : Ev (fun k => impl_IsAscending.f k l) (B (Asc l)) := by
  unfold impl_IsAscending.f
  rw [B_congr (p := Asc l) (q := ∀ i, 0 ≤ i → i + 1 < l.length → l.getD i 0 < l.getD (i + 1) 0) ⟨fun h i _ => h i, fun h i => h i (by omega)⟩]
  exact impl_IsAscending.l0_ev l hl l.length 0 (by omega)

/-! impl_GcdOf -/
theorem impl_GcdOf.l0_ev : ∀ (m n : Nat), Ev (fun k => impl_GcdOf.l0 k (m : Int) (n : Int)) ((Nat.gcd m n : Nat) : Int) := by
  intro m
  induction m using Nat.strongRecOn with
  | _ m ih =>
    intro n
    refine Ev.step (fun k => by rw [impl_GcdOf.l0]) ?_
    by_cases e : m = 0
    · subst e
      rw [Nat.gcd_zero_left]
      exact ev_pos (by omega) (Ev.now _)
    · refine ev_neg (by omega) ?_
      rw [← Int.ofNat_tmod, Nat.gcd_rec m n]
      exact ih (n % m) (Nat.mod_lt _ (by omega)) m
theorem impl_GcdOf.ev (a b : Int) : Ev (fun k => impl_GcdOf.f k a b) (gcdV a b) := by
  unfold impl_GcdOf.f
  refine Ev.bind (impl_allWithin.ev [a, b] (-1000000) 1000000 (by simp)) ?_
  by_cases h : (-1000000 ≤ a ∧ a ≤ 1000000) ∧ (-1000000 ≤ b ∧ b ≤ 1000000)
  · rw [B_true (by simpa using h), gcdV, if_pos h, mx_abs h.1.1 h.1.2, mx_abs h.2.1 h.2.2]
    exact ev_pos rfl (impl_GcdOf.l0_ev _ _)
  · rw [B_false (by simpa using h), gcdV, if_neg h]
    exact ev_neg (by simp) (Ev.now _)

/-! impl_GcdOfList -/
theorem impl_GcdOfList.l0_ev (l : List Int) (hl : l.length < 4611686018427387904) : ∀ (d j : Nat) (g : Int), j + d = l.length → Ev (fun k => impl_GcdOfList.l0 k g l (l.length : Int) (j : Int)) ((l.drop j).foldl gcdV g) := by
  intro d
  induction d with
  | zero =>
    intro j g h1
    refine Ev.step (fun k => by rw [impl_GcdOfList.l0]) ?_
    rw [List.drop_of_length_le (by omega)]
    exact ev_neg (by omega) (Ev.now _)
  | succ d ih =>
    intro j g h1
    have hj : j < l.length := by omega
    refine Ev.step (fun k => by rw [impl_GcdOfList.l0]) ?_
    rw [wadd1 (by omega), rd_nat, getD_get hj, List.drop_eq_getElem_cons hj, List.foldl_cons]
    exact ev_pos (by omega) (ev_pos (by omega) (ev_pos (by omega) (Ev.bind (impl_GcdOf.ev _ _) (ih (j + 1) _ (by omega)))))
theorem impl_GcdOfList.ev (l : List Int) (hl : l.length < 4611686018427387904) : Ev (fun k => impl_GcdOfList.f k l) (gcdLV l) := by
  unfold impl_GcdOfList.f gcdLV
  exact impl_GcdOfList.l0_ev l hl l.length 0 0 (by omega)

/-! impl_IsSemigroup -/
theorem impl_IsSemigroup.l1_ev (g L : List Int) (a : Nat) (hg0 : 0 < g.length) (ha : (a : Int) = g.getD 0 0) (ha' : a ≤ 60) (hL : L.length = a) (hb : ∀ r, r < a → -10 ≤ L.getD r 0 ∧ L.getD r 0 ≤ 100000) : ∀ (d j : Nat), j + d = a → Ev (fun k => impl_IsSemigroup.l1 k g L (a : Int) (j : Int)) (B (∀ r, j ≤ r → r < a → L.getD r 0 - (a : Int) < 200)) := by
  intro d
  induction d with
  | zero =>
    intro j h1
    refine Ev.step (fun k => by rw [impl_IsSemigroup.l1]) ?_
    rw [B_true (fun r _ _ => by omega)]
    exact ev_neg (by omega) (Ev.now _)
  | succ d ih =>
    intro j h1
    have hj := hb j (by omega)
    have e0 : Box (rd g 0 = (a : Int)) := ⟨by rw [ha]; simp [rd]⟩
    refine Ev.step (fun k => by rw [impl_IsSemigroup.l1]) ?_
    rw [e0.out, rd_nat, wadd1 (by omega), w64 (n := L.getD j 0 - (a : Int)) (by omega) (by omega)]
    refine ev_pos (by omega) (ev_pos (by omega) (ev_pos (by omega) (ev_pos (by omega) ?_)))
    by_cases c : L.getD j 0 - (a : Int) ≥ 200
    · rw [B_false (fun h => by have := h j (by omega) (by omega); omega)]
      exact ev_pos c (Ev.now _)
    · rw [B_congr (q := ∀ r, j + 1 ≤ r → r < a → L.getD r 0 - (a : Int) < 200) ⟨fun h r h1 h2 => h r (by omega) h2, fun h r h1 h2 => by
        by_cases e : r = j
        · subst e; omega
        · exact h r (by omega) h2⟩]
      exact ev_neg c (ih (j + 1) (by omega))
theorem impl_IsSemigroup.l0_ev (g : List Int) (c1 : 1 ≤ g.length ∧ g.length ≤ 12) (c2 : ∀ x ∈ g, 1 ≤ x ∧ x ≤ 60) (c3 : Asc g) (c4 : gcdLV g = 1) : ∀ (d j : Nat), j + d = g.length → 1 ≤ j → (∀ i, 1 ≤ i → i < j → ¬ Gen (g.take i) (g.getD i 0)) → Ev (fun k => impl_IsSemigroup.l0 k g (j : Int)) (B (SG g)) := by
  intro d
  induction d with
  | zero =>
    intro j h1 h2 h3
    have hm : g.getD 0 0 ∈ g := getD_mem (by omega)
    have hr := c2 _ hm
    obtain ⟨a, ha⟩ : ∃ a : Nat, (a : Int) = g.getD 0 0 := ⟨(g.getD 0 0).toNat, by omega⟩
    have e0 : Box (rd g 0 = (a : Int)) := ⟨by rw [ha]; simp [rd]⟩
    rw [← ha] at hm hr
    obtain ⟨L, hL, hI⟩ := impl_leasts.ev g a (by omega) (by omega) c2 (by omega)
    have hend := hI.ends_leasts hm (by omega) c2 c4
    have hLl := hI.1
    refine Ev.step (fun k => by rw [impl_IsSemigroup.l0]) ?_
    rw [e0.out]
    refine ev_neg (by omega) (ev_pos (by omega) (Ev.bind hL ?_))
    have e1 : Box ((L.length : Int) = (a : Int)) := ⟨by rw [hI.1]⟩
    rw [e1.out, B_congr (p := SG g) (q := ∀ r, 0 ≤ r → r < a → L.getD r 0 - (a : Int) < 200) ⟨fun h r _ hr' => hend.2 h.2.2.2.2.2 r hr', fun h => ⟨c1, c2, c3, c4, fun i i1 i2 => h3 i i1 (by omega), hend.1 (fun r hr' => h r (by omega) hr')⟩⟩]
    refine impl_IsSemigroup.l1_ev g L a (by omega) ha (by omega) hI.1 (fun r hr' => ?_) a 0 (by omega)
    have full : 0 ≤ L.getD r 0 := by
      apply Classical.byContradiction
      intro hc
      obtain ⟨m, hm', em⟩ := Cls.all (g := g) (a := (a : Int)) (by omega) c2 (r : Int) (by rw [c4]; exact Int.one_dvd _)
      refine (hI.2 r hr').1 (by omega) m hm' ?_
      rw [em, Int.emod_eq_of_lt (by omega) (by omega)]
    have := ((hI.2 r hr').2 full).2
    omega
  | succ d ih =>
    intro j h1 h2 h3
    have hj : j < g.length := by omega
    have hx := c2 _ (getD_mem hj)
    refine Ev.step (fun k => by rw [impl_IsSemigroup.l0]) ?_
    rw [wadd1 (by omega), rd_nat, Int.toNat_natCast]
    refine ev_pos (by omega) (ev_pos (by omega) (ev_pos (by omega) (Ev.bind (impl_Generates.ev _ _ (by simp; omega)) ?_)))
    have hlen : (g.take j).length = j := by simp; omega
    have hgv : genV (g.take j) (g.getD j 0) = B (Gen (g.take j) (g.getD j 0)) := B_congr ⟨fun h => h.2.2, fun h => ⟨⟨fun x hx' => c2 x (List.take_subset _ _ hx'), by omega, by omega⟩, by omega, h⟩⟩
    rw [hgv]
    by_cases c : Gen (g.take j) (g.getD j 0)
    · rw [B_true c, B_false (fun h => h.2.2.2.2.1 j h2 hj c)]
      exact ev_pos rfl (Ev.now _)
    · rw [B_false c]
      refine ev_neg (by simp) (ih (j + 1) (by omega) (by omega) (fun i i1 i2 => ?_))
      by_cases e : i = j
      · subst e; exact c
      · exact h3 i i1 (by omega)
theorem impl_IsSemigroup.ev (g : List Int) (hgl : g.length ≤ 1048576) : Ev (fun k => impl_IsSemigroup.f k g) (B (SG g)) := by
  have out : Box (¬ SG g → Ev (fun k => impl_IsSemigroup.j0 k g true) (B (SG g))) := ⟨fun h => by
    rw [B_false h]
    refine Ev.step (fun k => by rw [impl_IsSemigroup.j0]) ?_
    exact ev_pos rfl (Ev.now _)⟩
  unfold impl_IsSemigroup.f
  simp only [impl_within.eq, Option.bind_some]
  by_cases c1 : 1 ≤ (g.length : Int) ∧ (g.length : Int) ≤ 12
  · refine ev_pos (decide_eq_true c1) ?_
    refine Ev.bind (impl_allWithin.ev g 1 60 (by omega)) ?_
    by_cases c2 : ∀ x ∈ g, 1 ≤ x ∧ x ≤ 60
    · rw [B_true c2]
      refine ev_pos rfl (Ev.bind (impl_IsAscending.ev g (by omega)) ?_)
      by_cases c3 : Asc g
      · rw [B_true c3]
        refine ev_pos rfl (Ev.bind (impl_GcdOfList.ev g (by omega)) ?_)
        by_cases c4 : gcdLV g = 1
        · refine Ev.step (fun k => by rw [impl_IsSemigroup.j0]) ?_
          refine ev_neg (by simp [c4]) ?_
          exact impl_IsSemigroup.l0_ev g (by omega) c2 c3 c4 (g.length - 1) 1 (by omega) (by omega) (fun i i1 i2 => by omega)
        · rw [show (gcdLV g != 1) = true by simp [c4]]
          exact out.out (fun h => c4 h.2.2.2.1)
      · rw [B_false c3]
        exact ev_neg (by simp) (out.out (fun h => c3 h.2.2.1))
    · rw [B_false c2]
      exact ev_neg (by simp) (out.out (fun h => c2 h.2.1))
  · exact ev_neg (by simpa using c1) (out.out (fun h => c1 (by have := h.1; omega)))

/-! impl_SortList -/
theorem impl_SortList.eq (l : List Int) (hl : l.length ≤ 1000000000) : ∃ r, impl_SortList.f l = some r ∧ IsSort l r ∧ r.length ≤ l.length := by
  refine ⟨_, by unfold impl_SortList.f; rw [if_pos hl], sort_compact l, ?_⟩
  have := Lib.compact_length_le (l.mergeSort fun x y => decide (x ≤ y))
  rwa [List.length_mergeSort] at this

/-! impl_FromGens -/
theorem impl_FromGens.l0_ev (s : List Int) (hs : s.Pairwise (· < ·)) (hp : ∀ x ∈ s, 1 ≤ x ∧ x ≤ 60) (hl : s.length ≤ 20) : ∀ (d j : Nat), j + d = s.length → Ev (fun k => impl_FromGens.l0 k s (s.length : Int) (j : Int) (minK s j)) (if B (SG (minV s)) = true then (minV s, true) else ([], false)) := by
  intro d
  induction d with
  | zero =>
    intro j h1
    obtain rfl : j = s.length := by omega
    have hk := minK_length s s.length
    refine Ev.step (fun k => by rw [impl_FromGens.l0]) ?_
    refine ev_neg (by omega) (Ev.bind (impl_IsSemigroup.ev _ (by omega)) ?_)
    have ev : minV s = minK s s.length := rfl
    rw [ev]
    by_cases h : SG (minK s s.length)
    · rw [show (if B (SG (minK s s.length)) = true then (minK s s.length, true) else (([] : List Int), false)) = (minK s s.length, true) from if_pos (B_true h), B_true h]
      exact ev_pos rfl (Ev.now _)
    · rw [show (if B (SG (minK s s.length)) = true then (minK s s.length, true) else (([] : List Int), false)) = ([], false) from if_neg (by rw [B_false h]; simp), B_false h]
      exact ev_neg (by simp) (Ev.now _)
  | succ d ih =>
    intro j h1
    have hj : j < s.length := by omega
    have hk := minK_length s j
    have hn := ih (j + 1) (by omega)
    have hx := hp _ (getD_mem (l := s) hj)
    refine Ev.step (fun k => by rw [impl_FromGens.l0]) ?_
    rw [wadd1 (j := j) (by omega), rd_nat]
    refine ev_pos (by omega) (ev_pos (by omega) (ev_pos (by omega) ?_))
    rw [minK] at hn
    by_cases c : ((minK s j).length : Int) = 0
    · have e0 : minK s j = [] := List.length_eq_zero_iff.1 (by omega)
      have hc : B (j = 0 ∨ ¬ Gen (s.take j) (s.getD j 0)) = true := B_true (by
        right
        intro hg
        have := (minK_gen s j (by omega) _).2 hg
        rw [e0] at this
        rcases this.inv with h0 | ⟨z, hz, _⟩
        · omega
        · simp at hz)
      rw [if_pos hc] at hn
      exact ev_pos c (ev_pos (by omega) hn)
    · have hmem : ∀ x ∈ minK s j, 1 ≤ x ∧ x ≤ 60 := fun x hx => hp x (List.mem_of_mem_take (minK_sub s j (by omega) x hx))
      refine ev_neg c (Ev.bind (impl_Generates.ev (minK s j) (s.getD j 0) (by omega)) ?_)
      have hj0 : j ≠ 0 := by
        intro e
        subst e
        simp [minK] at c
      have e : genV (minK s j) (s.getD j 0) = B (Gen (s.take j) (s.getD j 0)) := B_congr (by
        rw [minK_gen s j (by omega)]
        exact ⟨fun hh => hh.2.2, fun hh => ⟨⟨hmem, by omega, by omega⟩, by omega, hh⟩⟩)
      rw [e]
      by_cases hg : Gen (s.take j) (s.getD j 0)
      · rw [B_false (by rintro (h | h); exact hj0 h; exact h hg), if_neg (by simp), List.append_nil] at hn
        rw [B_true hg]
        exact ev_pos rfl hn
      · rw [B_true (.inr hg), if_pos rfl] at hn
        rw [B_false hg]
        exact ev_neg (by simp) (ev_pos (by omega) hn)
theorem impl_FromGens.ev (l : List Int) (hl : l.length ≤ 1048576) : ∃ r, Ev (fun k => impl_FromGens.f k l) r ∧ GeV l r := by
  unfold impl_FromGens.f
  by_cases ho : GeOk l
  · obtain ⟨s, h1, h2, h3⟩ := impl_SortList.eq l (by omega)
    have hol := ho.2
    have hr := impl_FromGens.l0_ev s h2.1 (fun x hx => ho.1 x ((h2.2 x).1 hx)) (by omega) s.length 0 (by omega)
    refine ⟨if B (SG (minV s)) = true then (minV s, true) else ([], false), Ev.bind (impl_usable.ev l (by omega)) ?_, ?_⟩
    · rw [B_true (show (∀ x ∈ l, 1 ≤ x ∧ x ≤ 60) ∧ 1 ≤ l.length ∧ l.length ≤ 20 from ho)]
      refine ev_pos rfl ?_
      rw [h1]
      exact hr
    · by_cases hs : SG (minV s)
      · rw [B_true hs, if_pos rfl]
        exact .inl ⟨s, h2, ho, hs, rfl⟩
      · rw [B_false hs, if_neg (by simp)]
        refine .inr ⟨?_, rfl⟩
        rintro ⟨t, t1, t2, t3⟩
        rw [t1.unique h2] at t3
        exact hs t3
  · refine ⟨([], false), Ev.bind (impl_usable.ev l (by omega)) ?_, .inr ⟨?_, rfl⟩⟩
    · rw [B_false (show ¬ ((∀ x ∈ l, 1 ≤ x ∧ x ≤ 60) ∧ 1 ≤ l.length ∧ l.length ≤ 20) from ho)]
      exact ev_neg (by simp) (Ev.now _)
    · rintro ⟨t, t1, t2, t3⟩
      exact ho t2

/-! spec_l3Copy -/
theorem spec_l3Copy.eq (g : List Int) (hg : g.length ≤ 1048576) : spec_l3Copy.f g = some ([] ++ g) := by
  unfold spec_l3Copy.f
  simp only [Option.bind_some]
  rw [if_pos (by simp only [List.length_nil]; omega)]

/-! spec_DrawEqualSemigroup -/
theorem spec_DrawEqualSemigroup.ev (l : List Int) (hl : l.length < 4611686018427387904) : ∃ g g', Ev (fun k => spec_DrawEqualSemigroup.f k l) (g, g') ∧ g.length ≤ 100 := by
  obtain ⟨h, hh⟩ := spec_l1New.ev l hl
  obtain ⟨g, i1, h1, e1, hg, hi1⟩ := spec_l3Bent.ev l hl 0 (by omega) h
  obtain ⟨b, i2, h2, e2, hi2⟩ := spec_l1Once.eq l hl i1 hi1 h1 2 (by omega)
  by_cases c : b = true
  · refine ⟨g, [] ++ g, ?_, hg⟩
    unfold spec_DrawEqualSemigroup.f
    refine Ev.bind hh (Ev.bind e1 ?_)
    simp only []
    rw [e2]
    simp only [Option.bind_some]
    refine ev_pos c ?_
    unfold spec_l3Copy.f
    simp only [Option.bind_some]
    rw [if_pos (by simp only [List.length_nil]; omega)]
    exact Ev.now _
  · obtain ⟨g', i3, h3, e3, hg', hi3⟩ := spec_l3Bent.ev l hl i2 hi2 h2
    refine ⟨g, g', ?_, hg⟩
    unfold spec_DrawEqualSemigroup.f
    refine Ev.bind hh (Ev.bind e1 ?_)
    simp only []
    rw [e2]
    simp only [Option.bind_some]
    exact ev_neg c (Ev.bind e3 (Ev.now _))

/-! spec_Generates -/
theorem spec_Generates.ev (l : List Int) (n : Int) (hl : l.length < 4611686018427387904) : Ev (fun k => spec_Generates.f k l n) (genV l n) := by
  unfold spec_Generates.f genV
  refine Ev.bind (spec_l3Gens.ev l hl) ?_
  simp only [spec_l1In.eq, Option.bind_some]
  by_cases c : (∀ x ∈ l, 1 ≤ x ∧ x ≤ 60) ∧ 1 ≤ l.length ∧ l.length ≤ 20
  · rw [B_true c]
    refine ev_pos rfl ?_
    by_cases c2 : 0 ≤ n ∧ n ≤ 1000000
    · rw [decide_eq_true c2]
      refine Ev.step (fun k => by rw [spec_Generates.j0]) ?_
      refine ev_neg (by simp) ?_
      refine Ev.bind (spec_GcdOfList.ev l hl) ?_
      have hgr := gcdL_range l 0 (by omega) c.1
      have hg1 : 1 ≤ gcdLV l := hgr.2.2 (.inl (by intro e; rw [e] at c; simp at c))
      refine ev_neg (by omega) ?_
      by_cases c3 : Int.tmod n (gcdLV l) = 0
      · refine ev_pos c3 ?_
        have hd : gcdLV l ∣ n := Int.dvd_of_tmod_eq_zero c3
        clear c3
        by_cases c4 : n > 3600
        · refine ev_pos c4 (ev_pos (by omega) ?_)
          have hm : l.getD 0 0 ∈ l := getD_mem (by omega)
          have hr := c.1 _ hm
          obtain ⟨a, ha⟩ : ∃ a : Nat, (a : Int) = l.getD 0 0 := ⟨(l.getD 0 0).toNat, by omega⟩
          have e0 : Box (rd l 0 = (a : Int)) := ⟨by rw [ha]; simp [rd]⟩
          rw [← ha] at hm hr
          obtain ⟨L, hL, hI⟩ := impl_leasts.ev l a (by omega) (by omega) c.1 (by omega)
          have m0 := Int.emod_nonneg (n - 3600) (show (a : Int) ≠ 0 by omega)
          have m1 := Int.emod_lt_of_pos (n - 3600) (show (0 : Int) < (a : Int) by omega)
          obtain ⟨m, hm'⟩ : ∃ m : Nat, (m : Int) = 3600 + (n - 3600) % (a : Int) := ⟨(3600 + (n - 3600) % (a : Int)).toNat, by omega⟩
          have e1 : Box (wrap64 (3600 + (Int.tmod (wrap64 (n - 3600)) (a : Int))) = (m : Int)) := ⟨by
            rw [w64 (n := n - 3600) (by omega) (by omega), Int.tmod_eq_emod_of_nonneg (by omega), w64 (by omega) (by omega), hm']⟩
          obtain ⟨T, ht, hT⟩ := spec_l3Table.ev l (fun x hx => (c.1 x hx).1) (fun x hx => by have := c.1 x hx; omega) (by omega) m (by omega)
          have hTl := hT.1
          have g1 : Gen l n := hI.big hm (by omega) c.1 hd (by omega)
          have g2 : Gen l (m : Int) := hI.big hm (by omega) c.1 (by
            rw [hm']
            have q : (n - 3600) % (a : Int) = (n - 3600) - (a : Int) * ((n - 3600) / (a : Int)) := by have := Int.emod_add_mul_ediv (n - 3600) (a : Int); omega
            rw [q, show 3600 + (n - 3600 - (a : Int) * ((n - 3600) / (a : Int))) = n - (a : Int) * ((n - 3600) / (a : Int)) by omega]
            exact Int.dvd_sub hd (Int.dvd_mul_of_dvd_left ((gcdL_dvd l 0 (by omega) c.1).2 _ hm))) (by omega)
          rw [e0.out, e1.out]
          refine ev_neg (by omega) (Ev.bind ht ?_)
          rw [rdOf_nat, hT.at m (by omega), B_true g2, B_true ⟨c, c2, g1⟩]
          exact ev_pos (by omega) (ev_pos (by omega) (Ev.now _))
        · refine ev_neg c4 ?_
          obtain ⟨m, rfl⟩ : ∃ m : Nat, n = (m : Int) := ⟨n.toNat, by omega⟩
          obtain ⟨T, ht, hT⟩ := spec_l3Table.ev l (fun x hx => (c.1 x hx).1) (fun x hx => by have := c.1 x hx; omega) (by omega) m (by omega)
          have hTl := hT.1
          refine Ev.bind ht ?_
          rw [rdOf_nat, hT.at m (by omega), B_congr (q := ((∀ x ∈ l, 1 ≤ x ∧ x ≤ 60) ∧ 1 ≤ l.length ∧ l.length ≤ 20) ∧ (0 ≤ (m : Int) ∧ (m : Int) ≤ 1000000) ∧ Gen l (m : Int)) ⟨fun h => ⟨c, c2, h⟩, fun h => h.2.2⟩]
          exact ev_pos (by omega) (ev_pos (by omega) (Ev.now _))
      · refine ev_neg c3 ?_
        rw [B_false (fun h => c3 (Int.tmod_eq_zero_of_dvd (h.2.2.dvd c.1)))]
        exact Ev.now _
    · rw [decide_eq_false c2]
      refine Ev.step (fun k => by rw [spec_Generates.j0]) ?_
      rw [B_false (fun h => c2 h.2.1)]
      exact ev_pos (by simp) (Ev.now _)
  · rw [B_false c, B_false (fun h => c h.1)]
    refine ev_neg (by simp) ?_
    refine Ev.step (fun k => by rw [spec_Generates.j0]) ?_
    exact ev_pos rfl (Ev.now _)

/-! impl_Contains -/
theorem impl_Contains.ev (g : List Int) (n : Int) (hgl : g.length ≤ 1048576) : Ev (fun k => impl_Contains.f k g n) (contV g n) := by
  unfold impl_Contains.f contV
  by_cases c1 : n < 0
  · rw [B_false (fun hh => by omega)]
    exact ev_pos c1 (Ev.now _)
  · refine ev_neg c1 (Ev.bind (impl_IsSemigroup.ev g hgl) ?_)
    by_cases h : SG g
    · rw [B_true h]
      refine ev_pos rfl ?_
      by_cases c2 : n ≥ 200
      · rw [B_true ⟨h, by omega, h.2.2.2.2.2 n c2⟩]
        exact ev_pos c2 (Ev.now _)
      · refine ev_neg c2 ?_
        obtain ⟨hm, hr⟩ := h.head
        have hlen := h.1
        obtain ⟨a, ha⟩ : ∃ a : Nat, (a : Int) = g.getD 0 0 := ⟨(g.getD 0 0).toNat, by omega⟩
        have e0 : Box (rd g 0 = (a : Int)) := ⟨by rw [ha]; simp [rd]⟩
        rw [← ha] at hm hr
        obtain ⟨L, hL, hI⟩ := impl_leasts.ev g a (by omega) (by omega) h.2.1 (by omega)
        have hLl := hI.1
        have m0 := Int.emod_nonneg n (show (a : Int) ≠ 0 by omega)
        have m1 := Int.emod_lt_of_pos n (show (0 : Int) < (a : Int) by omega)
        have e1 : Box (Int.tmod n (a : Int) = n % (a : Int)) := ⟨Int.tmod_eq_emod_of_nonneg (by omega)⟩
        have e2 : Box (rd L (n % (a : Int)) = L.getD (n % (a : Int)).toNat 0) := ⟨rfl⟩
        have hgen := hI.gen hm (by omega) n
        have hfull := hI.full hm (by omega) h.2.1 h.2.2.2.1 (n % (a : Int)).toNat (by omega)
        rw [e0.out]
        refine ev_pos (by omega) (Ev.bind hL ?_)
        rw [e1.out, e2.out]
        refine ev_neg (by omega) (ev_pos (by omega) (ev_pos (by omega) ?_))
        rw [B_dec, B_congr (q := SG g ∧ 0 ≤ n ∧ Gen g n) ⟨fun hh => ⟨h, by omega, hgen.2 ⟨hfull, hh⟩⟩, fun hh => (hgen.1 hh.2.2).2⟩]
        exact Ev.now _
    · rw [B_false h, B_false (fun hh => h hh.1)]
      exact ev_neg (by simp) (Ev.now _)

/-! slices_Equal_int_int -/
theorem slices_Equal_int_int.l0_ev (x y : List Int) (hl : x.length = y.length) (hx : x.length < 4611686018427387904) : ∀ (d j : Nat), j + d = x.length → Ev (fun k => slices_Equal_int_int.l0 k x y (x.length : Int) (j : Int)) (B (x.drop j = y.drop j)) := by
  intro d
  induction d with
  | zero =>
    intro j h1
    refine Ev.step (fun k => by rw [slices_Equal_int_int.l0]) ?_
    rw [B_true (by rw [List.drop_of_length_le (by omega), List.drop_of_length_le (by omega)])]
    exact ev_neg (by omega) (Ev.now _)
  | succ d ih =>
    intro j h1
    have hj : j < x.length := by omega
    have hj' : j < y.length := by omega
    refine Ev.step (fun k => by rw [slices_Equal_int_int.l0]) ?_
    refine ev_pos (by omega) (ev_pos (by omega) (ev_pos (by omega) (ev_pos (by omega) ?_)))
    rw [wadd1 (by omega), rd_nat, rd_nat, getD_get hj, getD_get hj', List.drop_eq_getElem_cons hj, List.drop_eq_getElem_cons hj']
    by_cases e : x[j] = y[j]
    · refine ev_pos e ?_
      have := ih (j + 1) (by omega)
      rw [B_congr (q := x.drop (j + 1) = y.drop (j + 1)) (by simp only [e, List.cons.injEq, true_and])]
      exact this
    · refine ev_neg e ?_
      rw [B_false (fun h => e (List.cons.inj h).1)]
      exact Ev.now _
theorem slices_Equal_int_int.ev (x y : List Int) (hx : x.length < 4611686018427387904) : Ev (fun k => slices_Equal_int_int.f k x y) (B (x = y)) := by
  unfold slices_Equal_int_int.f
  by_cases e : x.length = y.length
  · refine ev_pos (by omega) ?_
    exact slices_Equal_int_int.l0_ev x y e hx x.length 0 (by omega)
  · refine ev_neg (by omega) ?_
    rw [B_false (fun h => e (by rw [h]))]
    exact Ev.now _

/-! impl_EqualSemigroup -/
theorem impl_EqualSemigroup.ev (x y : List Int) (hx : x.length < 4611686018427387904) : Ev (fun k => impl_EqualSemigroup.f k x y) (B (x = y)) := by
  unfold impl_EqualSemigroup.f
  exact Ev.bind (slices_Equal_int_int.ev x y hx) (Ev.now _)

/-! impl_MultiplicityOf -/
theorem impl_MultiplicityOf.ev (g : List Int) (hgl : g.length ≤ 1048576) : Ev (fun k => impl_MultiplicityOf.f k g) (if B (SG g) = true then g.getD 0 0 else 0) := by
  unfold impl_MultiplicityOf.f
  refine Ev.bind (impl_IsSemigroup.ev g hgl) ?_
  by_cases h : SG g
  · rw [B_true h]
    refine ev_pos rfl ?_
    have h0 := h.1.1
    rw [show rd g 0 = g.getD 0 0 by simp [rd], if_pos rfl]
    exact ev_pos (by omega) (Ev.now _)
  · rw [B_false h]
    exact ev_neg (by simp) (Ev.now _)

/-! spec_MultiplicityOf -/
theorem spec_MultiplicityOf.ev (g : List Int) (hgl : g.length ≤ 1048576) : Ev (fun k => spec_MultiplicityOf.f k g) (if B (SG g) = true then g.getD 0 0 else 0) := by
  unfold spec_MultiplicityOf.f
  refine Ev.bind (spec_IsSemigroup.ev g hgl) ?_
  by_cases h : SG g
  · rw [B_true h]
    refine ev_pos rfl ?_
    have h0 := h.1.1
    rw [show rd g 0 = g.getD 0 0 by simp [rd], if_pos rfl]
    exact ev_pos (by omega) (Ev.now _)
  · rw [B_false h]
    exact ev_neg (by simp) (Ev.now _)

/-! impl_DimensionOf -/
theorem impl_DimensionOf.ev (g : List Int) (hgl : g.length ≤ 1048576) : Ev (fun k => impl_DimensionOf.f k g) (if B (SG g) = true then (g.length : Int) else 0) := by
  unfold impl_DimensionOf.f
  refine Ev.bind (impl_IsSemigroup.ev g hgl) ?_
  by_cases h : SG g
  · rw [B_true h]
    refine ev_pos rfl ?_
    have h0 := h.1.1
    exact Ev.now _
  · rw [B_false h]
    exact ev_neg (by simp) (Ev.now _)

/-! spec_DimensionOf -/
theorem spec_DimensionOf.ev (g : List Int) (hgl : g.length ≤ 1048576) : Ev (fun k => spec_DimensionOf.f k g) (if B (SG g) = true then (g.length : Int) else 0) := by
  unfold spec_DimensionOf.f
  refine Ev.bind (spec_IsSemigroup.ev g hgl) ?_
  by_cases h : SG g
  · rw [B_true h]
    refine ev_pos rfl ?_
    have h0 := h.1.1
    exact Ev.now _
  · rw [B_false h]
    exact ev_neg (by simp) (Ev.now _)

end Go.Proofs.Ythednemidaegkaa.PFnSemigroups
namespace Go.Proofs.Ythednemidaegkaa.Pure
open Go.RowKit Go.Proofs.YthednemidaegkaaW.PrintWords Go.Proofs.YthednemidaegkaaW.PrintLast Go.Proofs.YthednemidaegkaaW.PrintMore Go.Proofs.YthednemidaegkaaM
set_option linter.unusedVariables false
set_option linter.unusedSimpArgs false
open Go.Proofs.Ythednemidaegkaa.PFnSemigroups
theorem FnSemigroups.j2_ev (s : List Int) (hs : s.length ≤ 100) (n : Int) : Ev (fun k => laws_FnSemigroups.j2 k n false s) true := by
  refine Ev.step (fun k => by rw [laws_FnSemigroups.j2]) ?_
  refine ev_neg (by simp) (Ev.bind (impl_Contains.ev s n (by omega)) ?_)
  by_cases c : contV s n = true
  · refine ev_pos c ?_
    by_cases c2 : n > 1000000
    · exact ev_pos c2 (Ev.now _)
    · obtain ⟨h1, h2, h3⟩ := B_iff.1 c
      obtain ⟨m1, m2, m3⟩ := h1.head
      have hM := spec_MultiplicityOf.ev s (by omega)
      rw [if_pos (B_true h1)] at hM
      have k1 : contV s (wrap64 (n + s.getD 0 0)) = true := by
        rw [w64 (by omega) (by omega)]
        exact B_true ⟨h1, by omega, h3.sum (.one m1)⟩
      have k2 : contV s (wrap64 (2 * n)) = true := by
        rw [w64 (by omega) (by omega), show 2 * n = n + n by omega]
        exact B_true ⟨h1, by omega, h3.sum h3⟩
      refine ev_neg c2 (Ev.bind hM (Ev.bind (impl_Contains.ev s _ (by omega)) (ev_pos k1 (Ev.bind (impl_Contains.ev s _ (by omega)) ?_))))
      rw [k2]
      exact Ev.now _
  · exact ev_neg c (Ev.now _)
theorem FnSemigroups.l0_ev (l : List Int) (hl : l.length ≤ 1001) (r : List Int × Bool) (hr : GeV l r) (s : List Int) (hs : s.length ≤ 100) (n m : Int) : ∀ (d j : Nat), j + d = r.1.length → Ev (fun k => laws_FnSemigroups.l0 k n m l r.2 (j : Int) s r.1) true := by
  have hrl := hr.length
  intro d
  induction d with
  | zero =>
    intro j h1
    refine Ev.step (fun k => by rw [laws_FnSemigroups.l0]) ?_
    refine ev_neg (by omega) ?_
    by_cases c : r.2 = true
    · refine ev_pos c ?_
      by_cases c1 : n ≥ 0
      · refine ev_pos c1 ?_
        by_cases c2 : n ≤ 1000000
        · refine ev_pos c2 (Ev.bind (impl_Generates.ev l n (by omega)) (Ev.bind (impl_Contains.ev r.1 n (by omega)) ?_))
          have e : genV l n = contV r.1 n := by
            unfold genV contV
            refine B_congr ⟨fun h => ⟨hr.sg c, c1, (hr.gen c n).1 h.2.2⟩, fun h => ⟨hr.usable c, ⟨c1, c2⟩, (hr.gen c n).2 h.2.2⟩⟩
          rw [e, bne_self_eq_false]
          exact FnSemigroups.j2_ev s hs m
        · exact ev_neg c2 (FnSemigroups.j2_ev s hs m)
      · exact ev_neg c1 (FnSemigroups.j2_ev s hs m)
    · exact ev_neg c (FnSemigroups.j2_ev s hs m)
  | succ d ih =>
    intro j h1
    have hj : j < r.1.length := by omega
    have hn := ih (j + 1) (by omega)
    refine Ev.step (fun k => by rw [laws_FnSemigroups.l0]) ?_
    rw [wadd1 (j := j) (by omega), rd_nat, Int.toNat_natCast, Int.toNat_natCast]
    simp only [Option.bind_some]
    refine ev_pos (by omega) (ev_pos (by omega) (ev_pos (by omega) (ev_pos ?_ (ev_pos (by omega) (ev_pos (by omega) (ev_pos ?_ ?_))))))
    · simp only [List.length_take, List.length_nil]; omega
    · simp only [List.length_append, List.length_take, List.length_drop, List.length_nil]; omega
    · by_cases c : r.2 = true
      · refine ev_pos c (Ev.bind (impl_Generates.ev _ _ (by simp only [List.length_append, List.length_take, List.length_drop, List.length_nil]; omega)) (ev_neg ?_ hn))
        rw [List.nil_append]
        unfold genV
        rw [B_false (fun h => (hr.sg c).alone hj h.2.2)]
        simp
      · exact ev_neg c hn
theorem FnSemigroups : laws_FnSemigroups.Pure := by
  intro l0 hl h1 hw
  have hl' : l0.length < 4611686018427387904 := by omega
  refine ev_rounds ?_
  unfold laws_FnSemigroups.f laws_big.f
  simp only [Option.bind_some]
  by_cases h : (l0.length : Int) > 1048576
  · exact ev_pos (decide_eq_true h) (Ev.now _)
  · refine ev_neg (by simpa using h) ?_
    obtain ⟨g, n, hd1, hz1⟩ := spec_DrawGenerates.ev l0 hl'
    obtain ⟨s, m, hd2, hz2⟩ := spec_DrawContains.ev l0 hl'
    obtain ⟨x, hd3, hz3⟩ := spec_DrawIsSemigroup.ev l0 hl'
    obtain ⟨l, hd4, hz4⟩ := spec_DrawFromGens.ev l0 hl'
    obtain ⟨a, b, hd5, hz5⟩ := spec_DrawEqualSemigroup.ev l0 hl'
    obtain ⟨r, hr, hr2⟩ := impl_FromGens.ev l (by omega)
    obtain ⟨r', hr', hr2'⟩ := spec_FromGens.ev l (by omega)
    obtain rfl := hr2.unique hr2'
    have hrl := hr2.length
    have fin : Ev (fun k => laws_FnSemigroups.j0 k n m l r.2 false s r.1) true := by
      refine Ev.step (fun k => by rw [laws_FnSemigroups.j0]) ?_
      exact ev_neg (by simp) (FnSemigroups.l0_ev l hz4 r hr2 s hz2 n m r.1.length 0 (by omega))
    refine Ev.bind hd1 (Ev.bind hd2 (Ev.bind hd3 (Ev.bind hd4 (Ev.bind hr (Ev.bind hr' (Ev.bind hd5 ?_))))))
    refine Ev.bind (impl_Generates.ev g n (by omega)) (Ev.bind (spec_Generates.ev g n (by omega)) (ev_neg (by simp) ?_))
    refine Ev.bind (impl_Contains.ev s m (by omega)) (Ev.bind (spec_Contains.ev s m (by omega)) (ev_neg (by simp) ?_))
    refine Ev.bind (impl_IsSemigroup.ev x (by omega)) (Ev.bind (spec_IsSemigroup.ev x (by omega)) (ev_neg (by simp) (ev_neg (by simp) ?_)))
    refine Ev.bind (spec_EqualSemigroup.ev _ _ (by omega)) (ev_pos (B_true rfl) ?_)
    refine Ev.bind (impl_EqualSemigroup.ev a b (by omega)) (Ev.bind (spec_EqualSemigroup.ev a b (by omega)) (ev_neg (by simp) ?_))
    refine Ev.bind (impl_MultiplicityOf.ev x (by omega)) (Ev.bind (spec_MultiplicityOf.ev x (by omega)) (ev_pos (by trivial) ?_))
    refine Ev.bind (impl_DimensionOf.ev x (by omega)) (Ev.bind (spec_DimensionOf.ev x (by omega)) ?_)
    rw [bne_self_eq_false]
    exact fin

end Go.Proofs.Ythednemidaegkaa.Pure
