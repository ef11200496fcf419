/- Lemmas on the functions that the law FnApery reaches. -/
import Derived.Test.YthednemidaegkaaPFnAperyx1
import Derived.Test.YthednemidaegkaaPFnAperyx2
import Derived.Test.YthednemidaegkaaPFnAperyx4
import Derived.Test.YthednemidaegkaaPFnAperyx5
import Derived.Test.YthednemidaegkaaPFnAperyx6
import Derived.Test.YthednemidaegkaaPFnAperyx7
import Derived.Test.YthednemidaegkaaPFnAperyx9
import Derived.Test.YthednemidaegkaaPFnAperyx11
import Derived.Test.YthednemidaegkaaPFnAperyx13
import Derived.Test.YthednemidaegkaaPFnAperyx15
import Derived.Test.YthednemidaegkaaPFnAperyx17
import Derived.Test.YthednemidaegkaaPFnAperyx25
import Derived.Test.YthednemidaegkaaPFnAperyx27
import Derived.Test.YthednemidaegkaaPFnAperyx28
import Derived.Test.YthednemidaegkaaPFnAperyx29
import Derived.Test.YthednemidaegkaaMathFnApery
namespace Go.Proofs.Ythednemidaegkaa.PFnApery
open Go.RowKit Go.Proofs.YthednemidaegkaaW.PrintWords Go.Proofs.YthednemidaegkaaW.PrintLast Go.Proofs.YthednemidaegkaaW.PrintMore Go.Proofs.YthednemidaegkaaM
set_option linter.unusedVariables false
set_option linter.unusedSimpArgs false
/-! laws_big -/
theorem laws_big.eq (l : List Int) : laws_big.f l = some (decide ((l.length : Int) > 1048576)) := rfl

/-! spec_l1New -/
theorem spec_l1New.l0_ev (l : List Int) (hl : l.length < 4611686018427387904) : ∀ (d j : Nat) (h : Int), j + d = l.length → ∃ h', Ev (fun k => spec_l1New.l0 k l h (j : Int)) (l, 0, h') := by
  intro d
  induction d with
  | zero =>
    intro j h g1
    refine ⟨h, Ev.step (fun k => by rw [spec_l1New.l0]) ?_⟩
    exact ev_neg (by omega) (Ev.now _)
  | succ d ih =>
    intro j h g1
    by_cases c : (j : Int) < 4000
    · obtain ⟨h', hh⟩ := ih (j + 1) (Go.bits .and .i64 (wrap64 ((wrap64 ((wrap64 (h * 131)) + (wrap64 (rd l (j : Int))))) + 7)) 1073741823) (by omega)
      refine ⟨h', Ev.step (fun k => by rw [spec_l1New.l0]) ?_⟩
      rw [wadd1 (j := j) (by omega)]
      exact ev_pos (by omega) (ev_pos c (ev_pos (by omega) hh))
    · refine ⟨h, Ev.step (fun k => by rw [spec_l1New.l0]) ?_⟩
      exact ev_pos (by omega) (ev_neg c (Ev.now _))
theorem spec_l1New.ev (l : List Int) (hl : l.length < 4611686018427387904) : ∃ h, Ev (fun k => spec_l1New.f k l) (l, 0, h) := by
  unfold spec_l1New.f
  exact spec_l1New.l0_ev l hl l.length 0 _ (by omega)

/-! spec_l2Same -/
theorem spec_l2Same.l0_ev (x y : List Int) (hl : x.length = y.length) (hx : x.length < 4611686018427387904) : ∀ (d j : Nat), j + d = x.length → Ev (fun k => spec_l2Same.l0 k x y (j : Int)) (B (x.drop j = y.drop j)) := by
  intro d
  induction d with
  | zero =>
    intro j h1
    refine Ev.step (fun k => by rw [spec_l2Same.l0]) ?_
    rw [B_true (by rw [List.drop_of_length_le (by omega), List.drop_of_length_le (by omega)])]
    exact ev_neg (by omega) (Ev.now _)
  | succ d ih =>
    intro j h1
    have hj : j < x.length := by omega
    have hj' : j < y.length := by omega
    refine Ev.step (fun k => by rw [spec_l2Same.l0]) ?_
    refine ev_pos (by omega) (ev_pos (by omega) (ev_pos (by omega) ?_))
    rw [wadd1 (by omega), rd_nat, rd_nat, getD_get hj, getD_get hj', List.drop_eq_getElem_cons hj, List.drop_eq_getElem_cons hj']
    by_cases e : x[j] = y[j]
    · refine ev_pos e ?_
      have := ih (j + 1) (by omega)
      rw [B_congr (q := x.drop (j + 1) = y.drop (j + 1)) (by simp only [e, List.cons.injEq, true_and])]
      exact this
    · refine ev_neg e ?_
      rw [B_false (fun h => e (List.cons.inj h).1)]
      exact Ev.now _
theorem spec_l2Same.ev (x y : List Int) (hx : x.length < 4611686018427387904) : Ev (fun k => spec_l2Same.f k x y) (B (x = y)) := by
  unfold spec_l2Same.f
  by_cases e : x.length = y.length
  · refine ev_pos (by omega) ?_
    exact spec_l2Same.l0_ev x y e hx x.length 0 (by omega)
  · refine ev_neg (by omega) ?_
    rw [B_false (fun h => e (by rw [h]))]
    exact Ev.now _

/-! spec_l1In -/
theorem spec_l1In.eq (a b c : Int) : spec_l1In.f a b c = some (decide (b ≤ a ∧ a ≤ c)) := by
  unfold spec_l1In.f
  by_cases h : b ≤ a <;> simp [h]

/-! spec_l3Gens -/
theorem spec_l3Gens.l0_ev (l : List Int) (hl : l.length < 4611686018427387904) : ∀ (d j : Nat), j + d = l.length → Ev (fun k => spec_l3Gens.l0 k l (j : Int)) (B ((∀ x ∈ l.drop j, 1 ≤ x ∧ x ≤ 60) ∧ 1 ≤ l.length ∧ l.length ≤ 20)) := by
  intro d
  induction d with
  | zero =>
    intro j h1
    refine Ev.step (fun k => by rw [spec_l3Gens.l0]) ?_
    rw [B_congr (q := 1 ≤ (l.length : Int) ∧ (l.length : Int) ≤ 20) (by rw [List.drop_of_length_le (by omega)]; simp; omega), ← B_dec]
    simp only [spec_l1In.eq, Option.bind_some]
    exact ev_neg (by omega) (Ev.now _)
  | succ d ih =>
    intro j h1
    have hj : j < l.length := by omega
    refine Ev.step (fun k => by rw [spec_l3Gens.l0]) ?_
    rw [wadd1 (by omega), rd_nat, getD_get hj, List.drop_eq_getElem_cons hj, spec_l1In.eq]
    simp only [Option.bind_some]
    refine ev_pos (by omega) (ev_pos (by omega) ?_)
    by_cases e : 1 ≤ l[j] ∧ l[j] ≤ 60
    · refine ev_pos (decide_eq_true e) ?_
      rw [B_congr (q := (∀ x ∈ l.drop (j + 1), 1 ≤ x ∧ x ≤ 60) ∧ 1 ≤ l.length ∧ l.length ≤ 20) (by simp only [List.forall_mem_cons, e.1, e.2, and_self, true_and])]
      exact ih (j + 1) (by omega)
    · refine ev_neg (by simpa using e) ?_
      rw [B_false (fun h => e (h.1 _ List.mem_cons_self))]
      exact Ev.now _
theorem spec_l3Gens.ev (l : List Int) (hl : l.length < 4611686018427387904) : Ev (fun k => spec_l3Gens.f k l) (B ((∀ x ∈ l, 1 ≤ x ∧ x ≤ 60) ∧ 1 ≤ l.length ∧ l.length ≤ 20)) := by
  unfold spec_l3Gens.f
  exact spec_l3Gens.l0_ev l hl l.length 0 (by omega)

/-! spec_l3Table -/
theorem spec_l3Table.l0_ev (g : List Int) (hg : ∀ x ∈ g, 1 ≤ x) (hgb : ∀ x ∈ g, x ≤ 4611686018427387904) (hgl : g.length < 4611686018427387904) (m : Nat) (hm : m < 1000000000000) :
    ∀ (d n : Nat) (T : List Bool), n + d = m + 1 → 1 ≤ n → Marked T (m + 1) (fun y => y < (n : Int) ∧ Gen g y) → ∃ T', Ev (fun k => spec_l3Table.l0 k g (m : Int) T (n : Int)) T' ∧ IsTable g (m + 1) T' := by
  intro d
  induction d with
  | zero =>
    intro n T h1 h2 h3
    refine ⟨T, Ev.step (fun k => by rw [spec_l3Table.l0]) ?_, h3.congr (fun i hi => ⟨fun h => h.2, fun h => ⟨by omega, h⟩⟩)⟩
    exact ev_neg (by omega) (Ev.now _)
  | succ d ih =>
    intro n T h1 h2 h3
    have inner : ∀ (d' j : Nat) (T : List Bool), j + d' = g.length → Marked T (m + 1) (fun y => (y < (n : Int) ∧ Gen g y) ∨ (y = (n : Int) ∧ ∃ x ∈ g.take j, Gen g ((n : Int) - x))) →
        ∃ T', Ev (fun k => spec_l3Table.l1 k g (m : Int) T (n : Int) (j : Int)) T' ∧ IsTable g (m + 1) T' := by
      intro d'
      induction d' with
      | zero =>
        intro j T g1 g2
        obtain ⟨T', ht, hT⟩ := ih (n + 1) T (by omega) (by omega) (g2.congr (fun i hi => by
          rw [List.take_of_length_le (by omega)]
          constructor
          · rintro (⟨a, b⟩ | ⟨a, x, hx, b⟩)
            · exact ⟨by omega, b⟩
            · rw [a]; exact ⟨by omega, Gen.back hx b⟩
          · rintro ⟨a, b⟩
            by_cases e : (i : Int) < (n : Int)
            · exact .inl ⟨e, b⟩
            · right
              have e2 : (i : Int) = (n : Int) := by omega
              rw [e2] at b
              rcases b.inv with b | ⟨x, hx, b⟩
              · omega
              · exact ⟨e2, x, hx, b⟩))
        refine ⟨T', Ev.step (fun k => by rw [spec_l3Table.l1]) ?_, hT⟩
        refine ev_neg (by omega) ?_
        rw [wadd1 (by omega)]; exact ht
      | succ d' ih' =>
        intro j T g1 g2
        have hj : j < g.length := by omega
        have hx1 := hg _ (List.getElem_mem hj)
        have hx2 := hgb _ (List.getElem_mem hj)
        have hT := g2.1
        have next : ∀ T2, Marked T2 (m + 1) (fun y => (y < (n : Int) ∧ Gen g y) ∨ (y = (n : Int) ∧ ∃ x ∈ g.take (j + 1), Gen g ((n : Int) - x))) → ∃ T', Ev (fun k => spec_l3Table.l1 k g (m : Int) T2 (n : Int) (wrap64 ((j : Int) + 1))) T' ∧ IsTable g (m + 1) T' := by
          intro T2 h
          rw [wadd1 (by omega)]
          exact ih' (j + 1) T2 (by omega) h
        by_cases c : (n : Int) ≥ g[j]
        · have e1 : wrap64 ((n : Int) - g[j]) = ((((n : Int) - g[j]).toNat : Nat) : Int) := by rw [w64 (by omega) (by omega)]; omega
          have hlt : ((n : Int) - g[j]).toNat < m + 1 := by omega
          by_cases ct : T.getD ((n : Int) - g[j]).toNat false = true
          · have hgen : Gen g ((n : Int) - g[j]) := by
              have := (g2.2 _ hlt).1 ct
              rw [Int.toNat_of_nonneg (by omega)] at this
              rcases this with ⟨_, b⟩ | ⟨a, _⟩
              · exact b
              · omega
            obtain ⟨T', ht, hT'⟩ := next (T.set ((n : Int)).toNat true) (g2.step (by omega) (by omega) (fun y => by
              rw [List.take_succ_eq_append_getElem hj]
              constructor
              · rintro (a | ⟨a, x, hx, b⟩)
                · exact .inl (.inl a)
                · exact .inr a
              · rintro ((a | ⟨a, x, hx, b⟩) | a)
                · exact .inl a
                · exact .inr ⟨a, x, List.mem_append.2 (.inl hx), b⟩
                · exact .inr ⟨a, g[j], List.mem_append.2 (.inr (List.mem_singleton.2 rfl)), hgen⟩))
            refine ⟨T', Ev.step (fun k => by rw [spec_l3Table.l1]) ?_, hT'⟩
            rw [rd_nat, getD_get hj, e1, rdOf_nat]
            exact ev_pos (by omega) (ev_pos (by omega) (ev_pos c (ev_pos (by omega) (ev_pos (by omega) (ev_pos ct (ev_pos (by omega) (ev_pos (by omega) ht)))))))
          · obtain ⟨T', ht, hT'⟩ := next T (g2.congr (fun i hi => by
              rw [List.take_succ_eq_append_getElem hj]
              constructor
              · rintro (a | ⟨a, x, hx, b⟩)
                · exact .inl a
                · exact .inr ⟨a, x, List.mem_append.2 (.inl hx), b⟩
              · rintro (a | ⟨a, x, hx, b⟩)
                · exact .inl a
                · rcases List.mem_append.1 hx with hx | hx
                  · exact .inr ⟨a, x, hx, b⟩
                  · rw [List.mem_singleton.1 hx] at b
                    exact absurd ((g2.2 _ hlt).2 (by rw [Int.toNat_of_nonneg (by omega)]; exact .inl ⟨by omega, b⟩)) ct))
            refine ⟨T', Ev.step (fun k => by rw [spec_l3Table.l1]) ?_, hT'⟩
            rw [rd_nat, getD_get hj, e1, rdOf_nat]
            exact ev_pos (by omega) (ev_pos (by omega) (ev_pos c (ev_pos (by omega) (ev_pos (by omega) (ev_neg ct ht)))))
        · obtain ⟨T', ht, hT'⟩ := next T (g2.congr (fun i hi => by
            rw [List.take_succ_eq_append_getElem hj]
            constructor
            · rintro (a | ⟨a, x, hx, b⟩)
              · exact .inl a
              · exact .inr ⟨a, x, List.mem_append.2 (.inl hx), b⟩
            · rintro (a | ⟨a, x, hx, b⟩)
              · exact .inl a
              · rcases List.mem_append.1 hx with hx | hx
                · exact .inr ⟨a, x, hx, b⟩
                · rw [List.mem_singleton.1 hx] at b
                  have := b.nonneg hg
                  omega))
          refine ⟨T', Ev.step (fun k => by rw [spec_l3Table.l1]) ?_, hT'⟩
          rw [rd_nat, getD_get hj]
          exact ev_pos (by omega) (ev_pos (by omega) (ev_neg c ht))
    obtain ⟨T', ht, hT⟩ := inner g.length 0 T (by omega) (h3.congr (fun i hi => by
      constructor
      · intro a; exact .inl a
      · rintro (a | ⟨_, x, hx, _⟩)
        · exact a
        · simp at hx))
    refine ⟨T', Ev.step (fun k => by rw [spec_l3Table.l0]) ?_, hT⟩
    exact ev_pos (by omega) ht
theorem spec_l3Table.ev (g : List Int) (hg : ∀ x ∈ g, 1 ≤ x) (hgb : ∀ x ∈ g, x ≤ 4611686018427387904) (hgl : g.length < 4611686018427387904) (m : Nat) (hm : m < 1000000000000) : ∃ T, Ev (fun k => spec_l3Table.f k g (m : Int)) T ∧ IsTable g (m + 1) T := by
  obtain ⟨T, ht, hT⟩ := spec_l3Table.l0_ev g hg hgb hgl m hm m 1 ((List.replicate (m + 1) false).set (0 : Int).toNat true) (by omega) (by omega)
    ((Marked.init (P := fun _ => False) (fun _ h => h)).step (Q := fun y => y = 0) (x := 0) (by omega) (by omega) (fun y => by simp) |>.congr (fun i hi => by
      constructor
      · intro h
        have e : (i : Int) = 0 := h
        rw [e]
        exact ⟨by omega, .zero⟩
      · rintro ⟨h, _⟩
        show (i : Int) = 0
        omega))
  refine ⟨T, ?_, hT⟩
  unfold spec_l3Table.f
  rw [wadd1 (by omega)]
  simp only [Int.toNat_natCast, Option.bind_some, List.length_replicate]
  exact ev_pos (by omega) (ev_pos (by omega) (ev_pos (by omega) ht))

/-! spec_SortList -/
theorem spec_SortList.l0_ev (l : List Int) (hl : l.length ≤ 1000000000) : ∀ (d j : Nat) (s : List Int), j + d = l.length → s.length ≤ j → IsSort (l.take j) s → ∃ r, Ev (fun k => spec_SortList.l0 k l s (j : Int)) r ∧ IsSort l r ∧ r.length ≤ l.length := by
  intro d
  induction d with
  | zero =>
    intro j s h1 h2 h3
    rw [List.take_of_length_le (by omega)] at h3
    refine ⟨s, Ev.step (fun k => by rw [spec_SortList.l0]) ?_, h3, by omega⟩
    exact ev_neg (by omega) (Ev.now _)
  | succ d ih =>
    intro j s h1 h2 h3
    have hj : j < l.length := by omega
    have same : Box (l[j] ∈ s → ∃ r, Ev (fun k => spec_SortList.l0 k l s (wrap64 ((j : Int) + 1))) r ∧ IsSort l r ∧ r.length ≤ l.length) := Box.mk <| by
      intro hm
      rw [wadd1 (by omega)]
      refine ih (j + 1) s (by omega) (by omega) ⟨h3.1, fun x => ?_⟩
      rw [List.take_succ_eq_append_getElem hj, List.mem_append, List.mem_singleton, ← h3.2]
      constructor
      · intro h; exact .inl h
      · rintro (h | h)
        · exact h
        · rw [h]; exact hm
    have inner : ∀ (b : Nat), b ≤ s.length → (∀ i, b ≤ i → i < s.length → l[j] < s.getD i 0) → ∃ r, Ev (fun k => spec_SortList.l1 k l s (j : Int) (b : Int)) r ∧ IsSort l r ∧ r.length ≤ l.length := by
      have put : ∀ b : Nat, b ≤ s.length → (0 < b → s.getD (b - 1) 0 < l[j]) → (∀ i, b ≤ i → i < s.length → l[j] < s.getD i 0) → ∃ r, Ev (fun k => spec_SortList.l0 k l (s.take b ++ [l[j]] ++ ([] ++ s.drop b)) (wrap64 ((j : Int) + 1))) r ∧ IsSort l r ∧ r.length ≤ l.length := by
        intro b hb hlo hhi
        obtain ⟨p1, p2⟩ := insert_sorted h3.1 b hb l[j] hlo hhi
        rw [wadd1 (by omega), List.nil_append]
        refine ih (j + 1) _ (by omega) (by simp; omega) ⟨p1, fun x => ?_⟩
        rw [p2, List.take_succ_eq_append_getElem hj, List.mem_append, List.mem_singleton, h3.2]
      intro b
      induction b with
      | zero =>
        intro hb hhi
        obtain ⟨r, hr, hs, hl'⟩ := put 0 (by omega) (fun h => by omega) hhi
        refine ⟨r, Ev.step (fun k => by rw [spec_SortList.l1]) ?_, hs, hl'⟩
        simp only [Option.bind_some, rd_nat, getD_get hj]
        exact ev_neg (by omega) (ev_pos (by omega) (ev_pos (by omega) (ev_pos (by simp; omega) (ev_pos (by omega) (ev_pos (by omega) (ev_pos (by simp) (ev_pos (by simp; omega) hr)))))))
      | succ b ihb =>
        intro hb hhi
        have e1 : wrap64 (((b + 1 : Nat) : Int) - 1) = (b : Int) := by rw [w64 (by omega) (by omega)]; omega
        by_cases c1 : s.getD b 0 > l[j]
        · obtain ⟨r, hr, hs, hl'⟩ := ihb (by omega) (fun i i1 i2 => by
            by_cases e : i = b
            · subst e; omega
            · exact hhi i (by omega) i2)
          refine ⟨r, Ev.step (fun k => by rw [spec_SortList.l1]) ?_, hs, hl'⟩
          rw [e1, rd_nat, rd_nat, getD_get hj]
          exact ev_pos (by omega) (ev_pos (by omega) (ev_pos (by omega) (ev_pos (by omega) (ev_pos (by omega) (ev_pos c1 hr)))))
        · by_cases c2 : s.getD b 0 = l[j]
          · obtain ⟨r, hr, hs, hl'⟩ := same.out (by rw [← c2]; exact getD_mem (by omega))
            refine ⟨r, Ev.step (fun k => by rw [spec_SortList.l1]) ?_, hs, hl'⟩
            rw [e1, rd_nat, rd_nat, getD_get hj]
            exact ev_pos (by omega) (ev_pos (by omega) (ev_pos (by omega) (ev_pos (by omega) (ev_pos (by omega) (ev_neg c1 (ev_pos c2 hr))))))
          · obtain ⟨r, hr, hs, hl'⟩ := put (b + 1) (by omega) (fun _ => by rw [Nat.add_sub_cancel]; omega) hhi
            refine ⟨r, Ev.step (fun k => by rw [spec_SortList.l1]) ?_, hs, hl'⟩
            simp only [Option.bind_some]
            rw [e1, rd_nat, rd_nat, getD_get hj, Int.toNat_natCast]
            exact ev_pos (by omega) (ev_pos (by omega) (ev_pos (by omega) (ev_pos (by omega) (ev_pos (by omega) (ev_neg c1 (ev_neg c2 (ev_pos (by omega) (ev_pos (by omega) (ev_pos (by simp; omega) (ev_pos (by simp; omega) (ev_pos (by simp; omega) hr)))))))))))
    obtain ⟨r, hr, hs, hl'⟩ := inner s.length (by omega) (fun i i1 i2 => by omega)
    refine ⟨r, Ev.step (fun k => by rw [spec_SortList.l0]) ?_, hs, hl'⟩
    exact ev_pos (by omega) hr
theorem spec_SortList.ev (l : List Int) (hl : l.length ≤ 1000000000) : ∃ r, Ev (fun k => spec_SortList.f k l) r ∧ IsSort l r ∧ r.length ≤ l.length := by
  unfold spec_SortList.f
  exact spec_SortList.l0_ev l hl l.length 0 [] (by omega) (by simp) ⟨.nil, by simp⟩

/-! spec_l3Minimal -/
theorem spec_l3Minimal.l0_ev (s : List Int) (hs : ∀ x ∈ s, 1 ≤ x ∧ x ≤ 1000000) (hsl : s.length ≤ 1000000000) : ∀ (d j : Nat), j + d = s.length → Ev (fun k => spec_l3Minimal.l0 k (minK s j) s (j : Int)) (minV s) := by
  intro d
  induction d with
  | zero =>
    intro j h1
    refine Ev.step (fun k => by rw [spec_l3Minimal.l0]) ?_
    unfold minV
    rw [show j = s.length by omega]
    exact ev_neg (by omega) (Ev.now _)
  | succ d ih =>
    intro j h1
    have hj : j < s.length := by omega
    have hlen := minK_length s j
    have hx := hs _ (List.getElem_mem hj)
    have := ih (j + 1) (by omega)
    rw [minK] at this
    refine Ev.step (fun k => by rw [spec_l3Minimal.l0]) ?_
    rw [wadd1 (by omega), rd_nat, Int.toNat_natCast]
    refine ev_pos (by omega) ?_
    by_cases e : j = 0
    · refine ev_pos (by omega) (ev_pos (by omega) (ev_pos (by omega) ?_))
      rw [B_true (.inl e), if_pos rfl] at this
      exact this
    · refine ev_neg (by omega) (ev_pos (by omega) (ev_pos (by omega) ?_))
      rw [getD_get hj] at this ⊢
      obtain ⟨v, hv⟩ : ∃ v : Nat, (v : Int) = s[j] := ⟨s[j].toNat, by omega⟩
      obtain ⟨T, ht, hT⟩ := spec_l3Table.ev (s.take j) (fun x hx' => (hs x (List.take_subset _ _ hx')).1) (fun x hx' => by have := hs x (List.take_subset _ _ hx'); omega) (by simp; omega) v (by omega)
      rw [← hv]
      refine Ev.bind ht ?_
      have hTl := hT.1
      refine ev_pos (by omega) (ev_pos (by omega) ?_)
      rw [rdOf_nat, hT.at v (by omega)]
      rw [← hv] at this
      by_cases c : Gen (s.take j) (v : Int)
      · rw [B_true c]
        rw [B_false (by rintro (h | h); exact e h; exact h c), if_neg (by simp), List.append_nil] at this
        exact ev_pos rfl this
      · rw [B_false c]
        rw [B_true (.inr c), if_pos rfl] at this
        exact ev_neg (by simp) (ev_pos (by omega) this)
theorem spec_l3Minimal.ev (l : List Int) (hs : ∀ x ∈ l, 1 ≤ x ∧ x ≤ 1000000) (hsl : l.length ≤ 1000000000) : ∃ s, IsSort l s ∧ s.length ≤ l.length ∧ Ev (fun k => spec_l3Minimal.f k l) (minV s) := by
  obtain ⟨s, h1, h2, h3⟩ := spec_SortList.ev l hsl
  refine ⟨s, h2, h3, ?_⟩
  unfold spec_l3Minimal.f
  exact Ev.bind h1 (spec_l3Minimal.l0_ev s (fun x hx => hs x ((h2.2 x).1 hx)) (by omega) s.length 0 (by omega))

/-! spec_l2Small -/
theorem spec_l2Small.eq (a : Int) : spec_l2Small.f a = some (decide (-1000000 ≤ a ∧ a ≤ 1000000)) := by
  unfold spec_l2Small.f
  rw [spec_l1In.eq]; rfl

/-! spec_l1Max -/
theorem spec_l1Max.eq (a b : Int) : spec_l1Max.f a b = some (mx a b) := by
  unfold spec_l1Max.f mx
  split <;> split <;> first | rfl | (congr 1; omega)

/-! spec_GcdOf -/
theorem spec_GcdOf.l0_ev : ∀ (n m : Nat), Ev (fun k => spec_GcdOf.l0 k (m : Int) (n : Int)) ((Nat.gcd m n : Nat) : Int) := by
  intro n
  induction n using Nat.strongRecOn with
  | _ n ih =>
    intro m
    refine Ev.step (fun k => by rw [spec_GcdOf.l0]) ?_
    by_cases e : n = 0
    · subst e
      rw [Nat.gcd_zero_right]
      exact ev_neg (by omega) (Ev.now _)
    · refine ev_pos (by omega) (ev_neg (by omega) ?_)
      rw [← Int.ofNat_tmod, Nat.gcd_comm m n, Nat.gcd_rec n m, Nat.gcd_comm]
      exact ih (m % n) (Nat.mod_lt _ (by omega)) n
theorem spec_GcdOf.ev (a b : Int) : Ev (fun k => spec_GcdOf.f k a b) (gcdV a b) := by
  unfold spec_GcdOf.f
  simp only [spec_l2Small.eq, Option.bind_some]
  by_cases ha : -1000000 ≤ a ∧ a ≤ 1000000
  · by_cases hb : -1000000 ≤ b ∧ b ≤ 1000000
    · rw [decide_eq_true ha, decide_eq_true hb]
      refine ev_pos rfl ?_
      refine Ev.step (fun k => by rw [spec_GcdOf.j0]) ?_
      simp only [spec_l1Max.eq, Option.bind_some, mx_abs ha.1 ha.2, mx_abs hb.1 hb.2]
      refine ev_neg (by simp) ?_
      rw [gcdV, if_pos ⟨ha, hb⟩]
      exact spec_GcdOf.l0_ev _ _
    · rw [decide_eq_true ha, decide_eq_false hb]
      refine ev_pos rfl ?_
      refine Ev.step (fun k => by rw [spec_GcdOf.j0]) ?_
      rw [gcdV, if_neg (fun h => hb h.2)]
      exact ev_pos rfl (Ev.now _)
  · rw [decide_eq_false ha]
    refine ev_neg (by simp) ?_
    refine Ev.step (fun k => by rw [spec_GcdOf.j0]) ?_
    rw [gcdV, if_neg (fun h => ha h.1)]
    exact ev_pos rfl (Ev.now _)

/-! spec_GcdOfList -/
theorem spec_GcdOfList.l0_ev (l : List Int) (hl : l.length < 4611686018427387904) : ∀ (d j : Nat) (g : Int), j + d = l.length → Ev (fun k => spec_GcdOfList.l0 k l g (j : Int)) ((l.drop j).foldl gcdV g) := by
  intro d
  induction d with
  | zero =>
    intro j g h1
    refine Ev.step (fun k => by rw [spec_GcdOfList.l0]) ?_
    rw [List.drop_of_length_le (by omega)]
    exact ev_neg (by omega) (Ev.now _)
  | succ d ih =>
    intro j g h1
    have hj : j < l.length := by omega
    refine Ev.step (fun k => by rw [spec_GcdOfList.l0]) ?_
    rw [wadd1 (by omega), rd_nat, getD_get hj, List.drop_eq_getElem_cons hj, List.foldl_cons]
    exact ev_pos (by omega) (ev_pos (by omega) (Ev.bind (spec_GcdOf.ev _ _) (ih (j + 1) _ (by omega))))
theorem spec_GcdOfList.ev (l : List Int) (hl : l.length < 4611686018427387904) : Ev (fun k => spec_GcdOfList.f k l) (gcdLV l) := by
  unfold spec_GcdOfList.f gcdLV
  exact spec_GcdOfList.l0_ev l hl l.length 0 0 (by omega)

/-! spec_IsAscending -/
theorem spec_IsAscending.l0_ev (l : List Int) (hl : l.length < 4611686018427387904) : ∀ (d j : Nat), l.length ≤ j + 1 + d → Ev (fun k => spec_IsAscending.l0 k l ((j + 1 : Nat) : Int)) (B (∀ i, j ≤ i → i + 1 < l.length → l.getD i 0 < l.getD (i + 1) 0)) := by
  intro d
  induction d with
  | zero =>
    intro j h1
    refine Ev.step (fun k => by rw [spec_IsAscending.l0]) ?_
    rw [B_true (fun i _ _ => by omega)]
    exact ev_neg (by omega) (Ev.now _)
  | succ d ih =>
    intro j h1
    refine Ev.step (fun k => by rw [spec_IsAscending.l0]) ?_
    by_cases hj : j + 1 < l.length
    · have e1 : wrap64 (((j + 1 : Nat) : Int) - 1) = (j : Int) := by rw [w64 (by omega) (by omega)]; omega
      rw [e1, wadd1 (by omega), rd_nat, rd_nat]
      refine ev_pos (by omega) (ev_pos (by omega) (ev_pos (by omega) (ev_pos (by omega) ?_)))
      by_cases e : l.getD j 0 ≥ l.getD (j + 1) 0
      · refine ev_pos e ?_
        rw [B_false (fun h => by have := h j (by omega) hj; omega)]
        exact Ev.now _
      · refine ev_neg e ?_
        rw [B_congr (q := ∀ i, j + 1 ≤ i → i + 1 < l.length → l.getD i 0 < l.getD (i + 1) 0) ⟨fun h i hi => h i (by omega), fun h i hi h2 => by
          by_cases e3 : i = j
          · subst e3; omega
          · exact h i (by omega) h2⟩]
        exact ih (j + 1) (by omega)
    · rw [B_true (fun i _ _ => by omega)]
      exact ev_neg (by omega) (Ev.now _)
theorem spec_IsAscending.ev (l : List Int) (hl : l.length < 4611686018427387904) : Ev (fun k => spec_IsAscending.f k l) (B (Asc l)) := by
  unfold spec_IsAscending.f
  rw [B_congr (p := Asc l) (q := ∀ i, 0 ≤ i → i + 1 < l.length → l.getD i 0 < l.getD (i + 1) 0) ⟨fun h i _ => h i, fun h i => h i (by omega)⟩]
  exact spec_IsAscending.l0_ev l hl l.length 0 (by omega)

/-! spec_l3Ends -/
theorem spec_l3Ends.l0_ev (g : List Int) (hg0 : 0 < g.length) (a : Nat) (ha : (a : Int) = g.getD 0 0) (ha' : a ≤ 60) (T : List Bool) (hT : IsTable g 261 T) : ∀ (d n : Nat), n + d = 200 + a → Ev (fun k => spec_l3Ends.l0 k g T (n : Int)) (B (∀ m : Int, (n : Int) ≤ m → m < 200 + (a : Int) → Gen g m)) := by
  have hTl := hT.1
  intro d
  induction d with
  | zero =>
    intro n h1
    refine Ev.step (fun k => by rw [spec_l3Ends.l0]) ?_
    rw [show (0 : Int) = ((0 : Nat) : Int) from rfl, rd_nat, ← ha, w64 (by omega) (by omega), B_true (fun m _ _ => by omega)]
    exact ev_pos (by omega) (ev_neg (by omega) (Ev.now _))
  | succ d ih =>
    intro n h1
    refine Ev.step (fun k => by rw [spec_l3Ends.l0]) ?_
    rw [show rd g 0 = g.getD 0 0 by simp [rd], ← ha, w64 (n := 200 + (a : Int)) (by omega) (by omega), wadd1 (by omega), rdOf_nat, hT.at n (by omega)]
    refine ev_pos (by omega) (ev_pos (by omega) (ev_pos (by omega) (ev_pos (by omega) ?_)))
    by_cases c : Gen g (n : Int)
    · rw [B_true c]
      rw [B_congr (q := ∀ m : Int, ((n + 1 : Nat) : Int) ≤ m → m < 200 + (a : Int) → Gen g m) ⟨fun h m h1 h2 => h m (by omega) h2, fun h m h1 h2 => by
        by_cases e : m = (n : Int)
        · rw [e]; exact c
        · exact h m (by omega) h2⟩]
      exact ev_pos rfl (ih (n + 1) (by omega))
    · rw [B_false c, B_false (fun h => c (h _ (by omega) (by omega)))]
      exact ev_neg (by simp) (Ev.now _)
theorem spec_l3Ends.ev (g : List Int) (hg0 : 0 < g.length) (hgl : g.length ≤ 1000000) (hg : ∀ x ∈ g, 1 ≤ x ∧ x ≤ 60) : Ev (fun k => spec_l3Ends.f k g) (B (∀ n, 200 ≤ n → Gen g n)) := by
  have hm : g.getD 0 0 ∈ g := getD_mem hg0
  have hr := hg _ hm
  obtain ⟨a, ha⟩ : ∃ a : Nat, (a : Int) = g.getD 0 0 := ⟨(g.getD 0 0).toNat, by omega⟩
  obtain ⟨T, ht, hT⟩ := spec_l3Table.ev g (fun x hx => (hg x hx).1) (fun x hx => by have := hg x hx; omega) (by omega) 260 (by omega)
  unfold spec_l3Ends.f
  refine Ev.bind ht ?_
  rw [B_congr (ends_iff hm hr.1), ← ha]
  exact spec_l3Ends.l0_ev g hg0 a ha (by omega) T hT a 200 (by omega)

/-! spec_IsSemigroup -/
theorem spec_IsSemigroup.ev (g : List Int) (hgl : g.length ≤ 1048576) : Ev (fun k => spec_IsSemigroup.f k g) (B (SG g)) := by
  unfold spec_IsSemigroup.f
  refine Ev.bind (spec_l3Gens.ev g (by omega)) ?_
  by_cases c1 : (∀ x ∈ g, 1 ≤ x ∧ x ≤ 60) ∧ 1 ≤ g.length ∧ g.length ≤ 20
  · rw [B_true c1]
    refine ev_pos rfl ?_
    by_cases c2 : g.length ≤ 12
    · refine ev_pos (by omega) ?_
      refine Ev.bind (spec_IsAscending.ev g (by omega)) ?_
      by_cases c3 : Asc g
      · rw [B_true c3]
        refine ev_pos rfl ?_
        refine Ev.bind (spec_GcdOfList.ev g (by omega)) ?_
        by_cases c4 : gcdLV g = 1
        · refine ev_pos c4 ?_
          obtain ⟨s, h1, h2, h3⟩ := spec_l3Minimal.ev g (fun x hx => by have := c1.1 x hx; omega) (by omega)
          obtain rfl := h1.unique (IsSort.self c3)
          refine Ev.bind h3 ?_
          refine Ev.bind (spec_l2Same.ev (minV s) s (by have := minK_length s s.length; unfold minV; omega)) ?_
          by_cases c5 : Min s
          · rw [B_true (minV_self.2 c5)]
            refine ev_pos rfl ?_
            rw [B_congr (q := ∀ n, 200 ≤ n → Gen s n) ⟨fun h => h.2.2.2.2.2, fun h => ⟨⟨c1.2.1, c2⟩, c1.1, c3, c4, c5, h⟩⟩]
            exact Ev.bind (spec_l3Ends.ev s (by omega) (by omega) c1.1) (Ev.now _)
          · rw [B_false (fun h => c5 (minV_self.1 h)), B_false (fun h => c5 h.2.2.2.2.1)]
            exact ev_neg (by simp) (Ev.now _)
        · rw [B_false (fun h => c4 h.2.2.2.1)]
          exact ev_neg c4 (Ev.now _)
      · rw [B_false c3, B_false (fun h => c3 h.2.2.1)]
        exact ev_neg (by simp) (Ev.now _)
    · rw [B_false (fun h => c2 h.1.2)]
      exact ev_neg (by omega) (Ev.now _)
  · rw [B_false c1, B_false (fun h => c1 ⟨h.2.1, h.1.1, by have := h.1; omega⟩)]
    exact ev_neg (by simp) (Ev.now _)

/-! spec_FromGens -/
theorem spec_FromGens.ev (l : List Int) (hl : l.length ≤ 1048576) : ∃ r, Ev (fun k => spec_FromGens.f k l) r ∧ GeV l r := by
  unfold spec_FromGens.f
  by_cases ho : GeOk l
  · obtain ⟨s, h1, h2, h3⟩ := spec_l3Minimal.ev l (fun x hx => by have := ho.1 x hx; omega) (by omega)
    have hm : (minV s).length ≤ 1048576 := by
      have := minK_length s s.length
      have e : (minV s).length ≤ s.length := this
      omega
    by_cases hs : SG (minV s)
    · refine ⟨(minV s, true), Ev.bind (spec_l3Gens.ev l (by omega)) ?_, .inl ⟨s, h1, ho, hs, rfl⟩⟩
      rw [B_true (show (∀ x ∈ l, 1 ≤ x ∧ x ≤ 60) ∧ 1 ≤ l.length ∧ l.length ≤ 20 from ho)]
      refine ev_pos rfl (Ev.bind h3 (Ev.bind (spec_IsSemigroup.ev _ hm) ?_))
      rw [B_true hs]
      exact ev_pos rfl (Ev.now _)
    · refine ⟨([], false), Ev.bind (spec_l3Gens.ev l (by omega)) ?_, .inr ⟨?_, rfl⟩⟩
      · rw [B_true (show (∀ x ∈ l, 1 ≤ x ∧ x ≤ 60) ∧ 1 ≤ l.length ∧ l.length ≤ 20 from ho)]
        refine ev_pos rfl (Ev.bind h3 (Ev.bind (spec_IsSemigroup.ev _ hm) ?_))
        rw [B_false hs]
        exact ev_neg (by simp) (Ev.now _)
      · rintro ⟨t, t1, t2, t3⟩
        rw [t1.unique h1] at t3
        exact hs t3
  · refine ⟨([], false), Ev.bind (spec_l3Gens.ev l (by omega)) ?_, .inr ⟨?_, rfl⟩⟩
    · rw [B_false (show ¬ ((∀ x ∈ l, 1 ≤ x ∧ x ≤ 60) ∧ 1 ≤ l.length ∧ l.length ≤ 20) from ho)]
      exact ev_neg (by simp) (Ev.now _)
    · rintro ⟨t, t1, t2, t3⟩
      exact ho t2
theorem spec_FromGens.sg (g : List Int) (h : SG g) : Ev (fun k => spec_FromGens.f k g) (g, true) := by
  obtain ⟨r, hr, hv⟩ := spec_FromGens.ev g (by have := h.1; omega)
  have ho : GeOk g := ⟨h.2.1, by have := h.1; omega, by have := h.1; omega⟩
  have := hv.of h ho (fun _ => Iff.rfl) (IsSort.self h.2.2.1)
  rwa [this] at hr

/-! spec_l1Byte -/
theorem spec_l1Byte.eq (s : List Int) (hs : s.length < 4611686018427387904) (i : Int) (hi : 0 ≤ i) (h : Int) : ∃ x i' h', spec_l1Byte.f s i h = some (x, i', h') ∧ (0 ≤ x ∧ x ≤ 255) ∧ 0 ≤ i' := by
  unfold spec_l1Byte.f
  by_cases c : i < (s.length : Int)
  · rw [if_pos c, if_pos hi]
    have e : wrap64 (i + 1) = i + 1 := w64 (by omega) (by omega)
    exact ⟨_, _, _, rfl, and255 _, by rw [e]; omega⟩
  · rw [if_neg c]
    exact ⟨_, _, _, rfl, and255 _, hi⟩

/-! spec_l1Below -/
theorem tmod_range {x n : Int} (hx : 0 ≤ x) (hn : 1 ≤ n) : 0 ≤ Int.tmod x n ∧ Int.tmod x n < n := by
  rw [Int.tmod_eq_emod_of_nonneg hx]
  exact ⟨Int.emod_nonneg _ (by omega), Int.emod_lt_of_pos _ (by omega)⟩
theorem spec_l1Below.eq (s : List Int) (hs : s.length < 4611686018427387904) (i : Int) (hi : 0 ≤ i) (h n : Int) (hn : 1 ≤ n) : ∃ x i' h', spec_l1Below.f s i h n = some (x, i', h') ∧ (0 ≤ x ∧ x < n) ∧ 0 ≤ i' := by
  unfold spec_l1Below.f
  rw [if_neg (by omega)]
  obtain ⟨x, i1, h1, e1, hx, hi1⟩ := spec_l1Byte.eq s hs i hi h
  by_cases c : n ≤ 256
  · rw [if_pos c, e1]
    simp only [Option.bind_some]
    rw [if_neg (by omega)]
    exact ⟨_, _, _, rfl, tmod_range hx.1 hn, hi1⟩
  · rw [if_neg c, e1]
    simp only [Option.bind_some]
    obtain ⟨y, i2, h2, e2, hy, hi2⟩ := spec_l1Byte.eq s hs i1 hi1 h1
    rw [e2]
    simp only [Option.bind_some]
    obtain ⟨z, i3, h3, e3, hz, hi3⟩ := spec_l1Byte.eq s hs i2 hi2 h2
    rw [e3]
    simp only [Option.bind_some]
    obtain ⟨v, i4, h4, e4, hv, hi4⟩ := spec_l1Byte.eq s hs i3 hi3 h3
    rw [e4]
    simp only [Option.bind_some]
    rw [if_neg (by omega)]
    have a1 : wrap64 (x * 16777216) = x * 16777216 := w64 (by omega) (by omega)
    have a2 : wrap64 (y * 65536) = y * 65536 := w64 (by omega) (by omega)
    have a3 : wrap64 (z * 256) = z * 256 := w64 (by omega) (by omega)
    rw [a1, a2, a3]
    have a4 : wrap64 (x * 16777216 + y * 65536) = x * 16777216 + y * 65536 := w64 (by omega) (by omega)
    rw [a4]
    have a5 : wrap64 (x * 16777216 + y * 65536 + z * 256) = x * 16777216 + y * 65536 + z * 256 := w64 (by omega) (by omega)
    rw [a5]
    have a6 : wrap64 (x * 16777216 + y * 65536 + z * 256 + v) = x * 16777216 + y * 65536 + z * 256 + v := w64 (by omega) (by omega)
    rw [a6]
    exact ⟨_, _, _, rfl, tmod_range (by omega) hn, hi4⟩

/-! spec_l1Once -/
theorem spec_l1Once.eq (s : List Int) (hs : s.length < 4611686018427387904) (i : Int) (hi : 0 ≤ i) (h n : Int) (hn : 1 ≤ n) : ∃ b i' h', spec_l1Once.f s i h n = some (b, i', h') ∧ 0 ≤ i' := by
  obtain ⟨x, i1, h1, e1, hx, hi1⟩ := spec_l1Below.eq s hs i hi h n hn
  unfold spec_l1Once.f
  rw [e1]
  exact ⟨_, _, _, rfl, hi1⟩

/-! spec_l3List -/
theorem spec_l3List.eq (s : List Int) (hs : s.length < 4611686018427387904) (i : Int) (hi : 0 ≤ i) (h : Int) : ∃ g i' h', spec_l3List.f s i h = some (g, i', h') ∧ g ∈ drawn8 ∧ 0 ≤ i' := by
  obtain ⟨x, i1, h1, e1, hx, hi1⟩ := spec_l1Below.eq s hs i hi h 8 (by omega)
  unfold spec_l3List.f
  rw [e1]
  simp only [Option.bind_some]
  unfold drawn8
  (repeat' split) <;> exact ⟨_, _, _, rfl, by simp, hi1⟩

/-! spec_l3Draw -/
theorem spec_l3Draw.list_ev (s : List Int) (hs : s.length < 4611686018427387904) (i : Int) (hi : 0 ≤ i) (h : Int) : ∃ g i' h', Ev (fun k => (spec_l3List.f s i h).bind fun bt => ((spec_FromGens.f k bt.1).bind fun bu => (some (bu.1, bt.2.1, bt.2.2)))) (g, i', h') ∧ SG g ∧ 0 ≤ i' := by
  obtain ⟨g, i1, h1, e1, hg, hi1⟩ := spec_l3List.eq s hs i hi h
  rw [e1]
  simp only [Option.bind_some]
  exact ⟨g, i1, h1, Ev.bind (spec_FromGens.sg g (drawn8_sg hg)) (Ev.now _), drawn8_sg hg, hi1⟩
theorem spec_l3Draw.l1_ev (s : List Int) (hs : s.length < 4611686018427387904) (q : Int) (n : Int) (hn : n ≤ 1000) (hq : ∀ i h, 0 ≤ i → ∃ g i' h', Ev (fun k => spec_l3Draw.l0 k (wrap64 (q + 1)) s i h) (g, i', h') ∧ SG g ∧ 0 ≤ i') : ∀ (d j : Nat) (l : List Int) (i h : Int), 0 ≤ i → 1 ≤ l.length → l.length ≤ j + 1 → j ≤ 1000 → n ≤ (j : Int) + d → ∃ g i' h', Ev (fun k => spec_l3Draw.l1 k q l n (j : Int) s i h) (g, i', h') ∧ SG g ∧ 0 ≤ i' := by
  intro d
  induction d with
  | zero =>
    intro j l i h h1 h2 h3 h4 h5
    obtain ⟨r, hr, hv⟩ := spec_FromGens.ev l (by omega)
    by_cases hb : r.2 = true
    · refine ⟨r.1, i, h, Ev.step (fun k => by rw [spec_l3Draw.l1]) ?_, hv.sg hb, h1⟩
      exact ev_neg (by omega) (Ev.bind hr (ev_pos hb (Ev.now _)))
    · obtain ⟨g, i', h', e, e2, e3⟩ := hq i h h1
      refine ⟨g, i', h', Ev.step (fun k => by rw [spec_l3Draw.l1]) ?_, e2, e3⟩
      exact ev_neg (by omega) (Ev.bind hr (ev_neg hb e))
  | succ d ih =>
    intro j l i h h1 h2 h3 h4 h5
    by_cases c : (j : Int) < n
    · obtain ⟨x, i1, y1, e1, hx, hi1⟩ := spec_l1Below.eq s hs i h1 h 12 (by omega)
      obtain ⟨g, i', h', e, e2, e3⟩ := ih (j + 1) (l ++ [wrap64 ((wrap64 ((rd l 0) + 1)) + x)]) i1 y1 hi1 (by simp) (by simp; omega) (by omega) (by omega)
      refine ⟨g, i', h', Ev.step (fun k => by rw [spec_l3Draw.l1]) ?_, e2, e3⟩
      rw [e1, wadd1 (j := j) (by omega)]
      exact ev_pos c (ev_pos (by omega) (ev_pos (by omega) e))
    · obtain ⟨r, hr, hv⟩ := spec_FromGens.ev l (by omega)
      by_cases hb : r.2 = true
      · refine ⟨r.1, i, h, Ev.step (fun k => by rw [spec_l3Draw.l1]) ?_, hv.sg hb, h1⟩
        exact ev_neg c (Ev.bind hr (ev_pos hb (Ev.now _)))
      · obtain ⟨g, i', h', e, e2, e3⟩ := hq i h h1
        refine ⟨g, i', h', Ev.step (fun k => by rw [spec_l3Draw.l1]) ?_, e2, e3⟩
        exact ev_neg c (Ev.bind hr (ev_neg hb e))
theorem spec_l3Draw.l0_ev (s : List Int) (hs : s.length < 4611686018427387904) : ∀ (d q : Nat), q + d = 4 → ∀ (i h : Int), 0 ≤ i → ∃ g i' h', Ev (fun k => spec_l3Draw.l0 k (q : Int) s i h) (g, i', h') ∧ SG g ∧ 0 ≤ i' := by
  intro d
  induction d with
  | zero =>
    intro q hq i h hi
    obtain ⟨g, i', h', e, e2, e3⟩ := spec_l3Draw.list_ev s hs i hi h
    refine ⟨g, i', h', Ev.step (fun k => by rw [spec_l3Draw.l0]) ?_, e2, e3⟩
    exact ev_neg (by omega) e
  | succ d ih =>
    intro q hq i h hi
    obtain ⟨x, i1, y1, e1, hx, hi1⟩ := spec_l1Below.eq s hs i hi h 8 (by omega)
    obtain ⟨y, i2, y2, e2, hy, hi2⟩ := spec_l1Below.eq s hs i1 hi1 y1 4 (by omega)
    have w1 : wrap64 (1 + y) = 1 + y := w64 (by omega) (by omega)
    obtain ⟨g, i', h', e, e4, e5⟩ := spec_l3Draw.l1_ev s hs (q : Int) (1 + y) (by omega) (fun i h hi => by
      have := ih (q + 1) (by omega) i h hi
      rwa [← wadd1 (j := q) (by omega)] at this) 5 0 [wrap64 (2 + x)] i2 y2 hi2 (by simp) (by simp) (by omega) (by omega)
    refine ⟨g, i', h', Ev.step (fun k => by rw [spec_l3Draw.l0]) ?_, e4, e5⟩
    rw [e1]
    simp only [Option.bind_some]
    rw [e2]
    simp only [Option.bind_some]
    rw [w1]
    exact ev_pos (by omega) e
theorem spec_l3Draw.ev (s : List Int) (hs : s.length < 4611686018427387904) (i : Int) (hi : 0 ≤ i) (h : Int) : ∃ g i' h', Ev (fun k => spec_l3Draw.f k s i h) (g, i', h') ∧ SG g ∧ 0 ≤ i' := by
  obtain ⟨b, i1, h1, e1, hi1⟩ := spec_l1Once.eq s hs i hi h 4 (by omega)
  unfold spec_l3Draw.f
  rw [e1]
  simp only [Option.bind_some]
  cases b with
  | true =>
    obtain ⟨g, i', h', e, e2, e3⟩ := spec_l3Draw.list_ev s hs i1 hi1 h1
    exact ⟨g, i', h', ev_pos rfl e, e2, e3⟩
  | false =>
    obtain ⟨g, i', h', e, e2, e3⟩ := spec_l3Draw.l0_ev s hs 4 0 (by omega) i1 h1 hi1
    exact ⟨g, i', h', ev_neg (by simp) e, e2, e3⟩

/-! spec_l1PickInt -/
theorem spec_l1PickInt.eq (s : List Int) (hs : s.length < 4611686018427387904) (i : Int) (hi : 0 ≤ i) (h : Int) (l : List Int) (hl : 1 ≤ l.length) : ∃ x i' h', spec_l1PickInt.f s i h l = some (x, i', h') ∧ x ∈ l ∧ 0 ≤ i' := by
  obtain ⟨x, i1, h1, e1, hx, hi1⟩ := spec_l1Below.eq s hs i hi h (l.length : Int) (by omega)
  unfold spec_l1PickInt.f
  rw [e1]
  simp only [Option.bind_some]
  rw [if_pos hx.1, if_pos hx.2]
  refine ⟨_, _, _, rfl, ?_, hi1⟩
  obtain ⟨m, rfl⟩ : ∃ m : Nat, x = (m : Int) := ⟨x.toNat, by omega⟩
  rw [rd_nat]
  exact getD_mem (by omega)

/-! spec_l3Bent -/
theorem spec_l3Bent.ev (s : List Int) (hs : s.length < 4611686018427387904) (i : Int) (hi : 0 ≤ i) (h : Int) : ∃ g i' h', Ev (fun k => spec_l3Bent.f k s i h) (g, i', h') ∧ g.length ≤ 100 ∧ 0 ≤ i' := by
  obtain ⟨g, i1, h1, e1, hg, hi1⟩ := spec_l3Draw.ev s hs i hi h
  have hgl := hg.1
  obtain ⟨x, i2, h2, e2, hx, hi2⟩ := spec_l1Below.eq s hs i1 hi1 h1 12 (by omega)
  unfold spec_l3Bent.f
  by_cases c0 : x = 0
  · obtain ⟨y, i3, h3, e3, hy, hi3⟩ := spec_l1PickInt.eq s hs i2 hi2 h2 [0, 61, 12, (-3), 60] (by simp)
    refine ⟨g ++ [y], i3, h3, Ev.bind e1 ?_, by simp; omega, hi3⟩
    simp only []
    rw [e2]
    simp only [Option.bind_some]
    rw [if_pos c0, e3]
    exact ev_pos (by omega) (Ev.now _)
  by_cases c1 : x = 1
  · refine ⟨g.drop 1, i2, h2, Ev.bind e1 ?_, by simp; omega, hi2⟩
    simp only []
    rw [e2]
    simp only [Option.bind_some]
    rw [if_neg c0, if_pos c1]
    exact ev_pos (by omega) (Ev.now _)
  by_cases c2 : x = 2
  · obtain ⟨y, i3, h3, e3, hy, hi3⟩ := spec_l1PickInt.eq s hs i2 hi2 h2 [0, 59, 4] (by simp)
    refine ⟨[y, 60], i3, h3, Ev.bind e1 ?_, by simp, hi3⟩
    simp only []
    rw [e2]
    simp only [Option.bind_some]
    rw [if_neg c0, if_neg c1, if_pos c2, e3]
    exact Ev.now _
  · refine ⟨g, i2, h2, Ev.bind e1 ?_, by omega, hi2⟩
    simp only []
    rw [e2]
    simp only [Option.bind_some]
    rw [if_neg c0, if_neg c1, if_neg c2]
    exact Ev.now _

/-! spec_l4Gaps -/
theorem spec_l4Gaps.l0_ev (g : List Int) (T : List Bool) (hT : IsTable g 201 T) : ∀ (d j : Nat) (out : List Int), j + d = 200 → out.length ≤ j → Ev (fun k => spec_l4Gaps.l0 k out T (j : Int)) (out ++ scanV (fun n => !gB g n) d j) := by
  have hTl := hT.1
  intro d
  induction d with
  | zero =>
    intro j out h1 h2
    refine Ev.step (fun k => by rw [spec_l4Gaps.l0]) ?_
    rw [scanV, List.append_nil]
    exact ev_neg (by omega) (Ev.now _)
  | succ d ih =>
    intro j out h1 h2
    refine Ev.step (fun k => by rw [spec_l4Gaps.l0]) ?_
    rw [rdOf_nat, hT.at j (by omega), wadd1 (by omega), scanV_cons]
    refine ev_pos (by omega) (ev_pos (by omega) (ev_pos (by omega) ?_))
    by_cases c : Gen g (j : Int)
    · rw [B_true c, if_neg (fun hc => (nB_iff.1 hc) c), List.nil_append]
      exact ev_pos rfl (ih (j + 1) out (by omega) (by omega))
    · rw [B_false c, if_pos (nB_iff.2 c), ← List.append_assoc]
      exact ev_neg (by simp) (ev_pos (by omega) (ih (j + 1) (out ++ [(j : Int)]) (by omega) (by simp; omega)))
theorem spec_l4Gaps.ev (g : List Int) (h : SG g) : Ev (fun k => spec_l4Gaps.f k g) (gapsV g) := by
  obtain ⟨T, ht, hT⟩ := spec_l3Table.ev g h.pos (fun x hx => by have := h.2.1 x hx; omega) (by have := h.1; omega) 200 (by omega)
  unfold spec_l4Gaps.f
  refine Ev.bind ht ?_
  have := spec_l4Gaps.l0_ev g T hT 199 1 [] (by omega) (by simp)
  rwa [List.nil_append, gaps_from_one] at this

/-! spec_Gaps -/
theorem spec_Gaps.ev (g : List Int) (hgl : g.length ≤ 1048576) : Ev (fun k => spec_Gaps.f k g) (if B (SG g) = true then gapsV g else []) := by
  unfold spec_Gaps.f
  refine Ev.bind (spec_IsSemigroup.ev g hgl) ?_
  by_cases h : SG g
  · rw [B_true h, if_pos rfl]
    exact ev_pos rfl (Ev.bind (spec_l4Gaps.ev g h) (Ev.now _))
  · rw [B_false h, if_neg (by simp)]
    exact ev_neg (by simp) (Ev.now _)

/-! spec_FrobeniusOf -/
theorem spec_FrobeniusOf.ev (g : List Int) (hgl : g.length ≤ 1048576) : Ev (fun k => spec_FrobeniusOf.f k g) (frobV g) := by
  unfold spec_FrobeniusOf.f frobV lastV
  refine Ev.bind (spec_Gaps.ev g hgl) ?_
  have hl : (if B (SG g) = true then gapsV g else []).length ≤ 200 := by
    split
    · exact gapsV_length g
    · simp
  generalize (if B (SG g) = true then gapsV g else []) = l at hl
  by_cases c : l.length = 0
  · rw [if_pos c]
    exact ev_pos (by omega) (Ev.now _)
  · rw [if_neg c, wsub1 (by omega) (by omega), rd_nat]
    exact ev_neg (by omega) (ev_pos (by omega) (ev_pos (by omega) (Ev.now _)))

/-! spec_ConductorOf -/
theorem spec_ConductorOf.ev (g : List Int) (hgl : g.length ≤ 1048576) : Ev (fun k => spec_ConductorOf.f k g) (frobV g + 1) := by
  unfold spec_ConductorOf.f
  have hr := frobV_range g
  refine Ev.bind (spec_FrobeniusOf.ev g hgl) ?_
  rw [w64 (by omega) (by omega)]
  exact Ev.now _

/-! spec_l4Small -/
theorem spec_l4Small.l0_ev (g : List Int) (n : Nat) (hn : n < 1000000000) (T : List Bool) (hT : IsTable g (n + 1) T) : ∀ (d j : Nat) (out : List Int), j + d = n → out.length ≤ j → Ev (fun k => spec_l4Small.l0 k (n : Int) out T (j : Int)) (out ++ scanV (gB g) d j) := by
  have hTl := hT.1
  intro d
  induction d with
  | zero =>
    intro j out h1 h2
    refine Ev.step (fun k => by rw [spec_l4Small.l0]) ?_
    rw [scanV, List.append_nil]
    exact ev_neg (by omega) (Ev.now _)
  | succ d ih =>
    intro j out h1 h2
    refine Ev.step (fun k => by rw [spec_l4Small.l0]) ?_
    rw [rdOf_nat, hT.at j (by omega), wadd1 (by omega), scanV_cons]
    refine ev_pos (by omega) (ev_pos (by omega) (ev_pos (by omega) ?_))
    by_cases c : Gen g (j : Int)
    · rw [B_true c, if_pos (gB_iff.2 c), ← List.append_assoc]
      exact ev_pos rfl (ev_pos (by omega) (ih (j + 1) (out ++ [(j : Int)]) (by omega) (by simp; omega)))
    · rw [B_false c, if_neg (fun hc => c (gB_iff.1 hc)), List.nil_append]
      exact ev_neg (by simp) (ih (j + 1) out (by omega) (by omega))
theorem spec_l4Small.ev (g : List Int) (h : SG g) (n : Nat) (hn : n < 1000000000) : Ev (fun k => spec_l4Small.f k g (n : Int)) (smallV g n) := by
  unfold spec_l4Small.f smallV
  simp only [Option.bind_some]
  by_cases c : (n : Int) < 1
  · have e : n = 0 := by omega
    subst e
    rw [scanV]
    exact ev_pos c (Ev.now _)
  · obtain ⟨T, ht, hT⟩ := spec_l3Table.ev g h.pos (fun x hx => by have := h.2.1 x hx; omega) (by have := h.1; omega) n (by omega)
    refine ev_neg c (Ev.bind ht ?_)
    have := spec_l4Small.l0_ev g n hn T hT n 0 [] (by omega) (by simp)
    rwa [List.nil_append] at this

/-! spec_SmallElements -/
theorem spec_SmallElements.ev (g : List Int) (hgl : g.length ≤ 1048576) : Ev (fun k => spec_SmallElements.f k g) (if B (SG g) = true then smallV g (frobV g + 1).toNat else []) := by
  unfold spec_SmallElements.f
  refine Ev.bind (spec_IsSemigroup.ev g hgl) ?_
  by_cases h : SG g
  · rw [B_true h, if_pos rfl]
    have hr := frobV_range g
    refine ev_pos rfl (Ev.bind (spec_ConductorOf.ev g hgl) ?_)
    have e : Box (frobV g + 1 = (((frobV g + 1).toNat : Nat) : Int)) := ⟨by omega⟩
    have := spec_l4Small.ev g h (frobV g + 1).toNat (by omega)
    rw [← e.out] at this
    exact Ev.bind this (Ev.now _)
  · rw [B_false h, if_neg (by simp)]
    exact ev_neg (by simp) (Ev.now _)

/-! spec_ElementAt -/
theorem spec_ElementAt.ev (g : List Int) (n : Int) (hgl : g.length ≤ 1048576) : Ev (fun k => spec_ElementAt.f k g n) (elemV g n) := by
  unfold spec_ElementAt.f
  simp only [spec_l1In.eq, Option.bind_some]
  refine Ev.bind (spec_IsSemigroup.ev g hgl) ?_
  have out : Box (¬ (SG g ∧ 0 ≤ n ∧ n ≤ 200) → Ev (fun k => spec_ElementAt.j0 k n true g) (elemV g n)) := ⟨fun hh => by
    refine Ev.step (fun k => by rw [spec_ElementAt.j0]) ?_
    rw [elemV_not hh]
    exact ev_pos rfl (Ev.now _)⟩
  by_cases h : SG g
  · rw [B_true h]
    refine ev_pos rfl ?_
    by_cases c : 0 ≤ n ∧ n ≤ 200
    · obtain ⟨m, rfl⟩ : ∃ m : Nat, n = (m : Int) := ⟨n.toNat, by omega⟩
      obtain ⟨c', h1, h3, h2, h4⟩ := small_split h
      have hr := frobV_range g
      rw [elemV_sg h m (by omega), decide_eq_true c]
      refine Ev.step (fun k => by rw [spec_ElementAt.j0]) ?_
      refine ev_neg (by simp) (Ev.bind (spec_SmallElements.ev g hgl) ?_)
      rw [B_true h, if_pos rfl, show (frobV g + 1).toNat = c' by omega]
      by_cases d : m < (smallV g c').length
      · rw [rd_nat, elem_low h2 d]
        exact ev_pos (by omega) (ev_pos (by omega) (Ev.now _))
      · refine ev_neg (by omega) (Ev.bind (spec_ConductorOf.ev g hgl) ?_)
        rw [elem_high h h1 h3 h2 (by omega) (by omega)]
        have e0 : wrap64 (frobV g + 1 + (m : Int)) = frobV g + 1 + (m : Int) := w64 (by omega) (by omega)
        have e : Box (wrap64 (wrap64 (frobV g + 1 + (m : Int)) - ((smallV g c').length : Int)) = (c' : Int) + m - (smallV g c').length) := ⟨by rw [e0, w64 (by omega) (by omega)]; omega⟩
        rw [e.out]
        exact Ev.now _
    · rw [decide_eq_false c]
      exact out.out (fun hh => c hh.2)
  · rw [B_false h]
    exact ev_neg (by simp) (out.out (fun hh => h hh.1))

/-! spec_l6Case -/
theorem spec_l6Case.ev (l : List Int) (hl : l.length < 4611686018427387904) : ∃ g n, Ev (fun k => spec_l6Case.f k l) (g, n) ∧ g.length ≤ 100 := by
  obtain ⟨h, hh⟩ := spec_l1New.ev l hl
  obtain ⟨g, i1, h1, e1, hg, hi1⟩ := spec_l3Draw.ev l hl 0 (by omega) h
  have hgl := hg.1
  obtain ⟨a, i2, h2, e2, ha, hi2⟩ := spec_l1Below.eq l hl i1 hi1 h1 (g.length : Int) (by omega)
  obtain ⟨b, i3, h3, e3, hb, hi3⟩ := spec_l1Below.eq l hl i2 hi2 h2 8 (by omega)
  have start : ∀ r, Ev (fun k => if b = 0 then ((spec_l1PickInt.f l i3 h3 (([0, (-1), 61, 60, 7] : List Int))).bind fun bt789 => (some (g, bt789.1))) else (if b = 1 then ((spec_l1Below.f l i3 h3 6).bind fun bt792 => ((spec_ElementAt.f k g (wrap64 (1 + bt792.1))).bind fun t795 => (some (g, t795)))) else (if b = 2 then ((spec_l3Bent.f k l i3 h3).bind fun bt796 => (some (bt796.1, rd g a))) else (some (g, rd g a))))) r → Ev (fun k => spec_l6Case.f k l) r := by
    intro r hE
    unfold spec_l6Case.f
    refine Ev.bind hh (Ev.bind e1 ?_)
    simp only []
    rw [e2]
    simp only [Option.bind_some]
    refine ev_pos ha.1 (ev_pos ha.2 ?_)
    rw [e3]
    simp only [Option.bind_some]
    exact hE
  by_cases c0 : b = 0
  · obtain ⟨x, i4, h4, e4, hx, hi4⟩ := spec_l1PickInt.eq l hl i3 hi3 h3 [0, (-1), 61, 60, 7] (by simp)
    refine ⟨g, x, start _ (ev_pos c0 ?_), by omega⟩
    rw [e4]
    exact Ev.now _
  · by_cases c1 : b = 1
    · obtain ⟨x, i4, h4, e4, hx, hi4⟩ := spec_l1Below.eq l hl i3 hi3 h3 6 (by omega)
      refine ⟨g, elemV g (wrap64 (1 + x)), start _ (ev_neg c0 (ev_pos c1 ?_)), by omega⟩
      rw [e4]
      simp only [Option.bind_some]
      exact Ev.bind (spec_ElementAt.ev g _ (by omega)) (Ev.now _)
    · by_cases c2 : b = 2
      · obtain ⟨m, i4, h4, e4, hm, hi4⟩ := spec_l3Bent.ev l hl i3 hi3 h3
        exact ⟨m, _, start _ (ev_neg c0 (ev_neg c1 (ev_pos c2 (Ev.bind e4 (Ev.now _))))), hm⟩
      · exact ⟨g, _, start _ (ev_neg c0 (ev_neg c1 (ev_neg c2 (Ev.now _)))), by omega⟩

/-! spec_DrawAperySet -/
theorem spec_DrawAperySet.ev (l : List Int) (hl : l.length < 4611686018427387904) : ∃ g n, Ev (fun k => spec_DrawAperySet.f k l) (g, n) ∧ g.length ≤ 100 := by
  obtain ⟨g, n, hr, hz⟩ := spec_l6Case.ev l hl
  refine ⟨g, n, ?_, hz⟩
  unfold spec_DrawAperySet.f
  exact Ev.bind hr (Ev.now _)

/-! impl_within -/
theorem impl_within.eq (a b c : Int) : impl_within.f a b c = some (decide (b ≤ a ∧ a ≤ c)) := by
  unfold impl_within.f
  by_cases h : b ≤ a <;> simp [h]

/-! impl_allWithin -/
theorem impl_allWithin.l0_ev (l : List Int) (lo hi : Int) (hl : l.length < 4611686018427387904) : ∀ (d j : Nat), j + d = l.length → Ev (fun k => impl_allWithin.l0 k lo hi l (l.length : Int) (j : Int)) (B (∀ x ∈ l.drop j, lo ≤ x ∧ x ≤ hi)) := by
  intro d
  induction d with
  | zero =>
    intro j h1
    refine Ev.step (fun k => by rw [impl_allWithin.l0]) ?_
    rw [B_true (by rw [List.drop_of_length_le (by omega)]; simp)]
    exact ev_neg (by omega) (Ev.now _)
  | succ d ih =>
    intro j h1
    have hj : j < l.length := by omega
    refine Ev.step (fun k => by rw [impl_allWithin.l0]) ?_
    rw [wadd1 (by omega), rd_nat, getD_get hj, List.drop_eq_getElem_cons hj, impl_within.eq]
    simp only [Option.bind_some]
    refine ev_pos (by omega) (ev_pos (by omega) (ev_pos (by omega) ?_))
    by_cases e : lo ≤ l[j] ∧ l[j] ≤ hi
    · refine ev_pos (decide_eq_true e) ?_
      rw [B_congr (q := ∀ x ∈ l.drop (j + 1), lo ≤ x ∧ x ≤ hi) (by simp only [List.forall_mem_cons, e.1, e.2, and_self, true_and])]
      exact ih (j + 1) (by omega)
    · refine ev_neg (by simpa using e) ?_
      rw [B_false (fun h => e (h _ List.mem_cons_self))]
      exact Ev.now _
theorem impl_allWithin.ev (l : List Int) (lo hi : Int) (hl : l.length < 4611686018427387904) : Ev (fun k => impl_allWithin.f k l lo hi) (B (∀ x ∈ l, lo ≤ x ∧ x ≤ hi)) := by
  unfold impl_allWithin.f
  exact impl_allWithin.l0_ev l lo hi hl l.length 0 (by omega)

/-! impl_usable -/
theorem impl_usable.ev (l : List Int) (hl : l.length < 4611686018427387904) : Ev (fun k => impl_usable.f k l) (B ((∀ x ∈ l, 1 ≤ x ∧ x ≤ 60) ∧ 1 ≤ l.length ∧ l.length ≤ 20)) := by
  unfold impl_usable.f
  simp only [impl_within.eq, Option.bind_some]
  by_cases c : 1 ≤ (l.length : Int) ∧ (l.length : Int) ≤ 20
  · refine ev_pos (decide_eq_true c) ?_
    rw [B_congr (q := ∀ x ∈ l, 1 ≤ x ∧ x ≤ 60) ⟨fun h => h.1, fun h => ⟨h, by omega⟩⟩]
    exact Ev.bind (impl_allWithin.ev l 1 60 hl) (Ev.now _)
  · refine ev_neg (by simpa using c) ?_
    rw [B_false (fun h => c (by omega))]
    exact Ev.now _

/-! impl_leasts -/
theorem impl_leasts.l3_ev (g : List Int) (a : Nat) (ha : 1 ≤ a) (ha' : a ≤ 60) (hg : ∀ x ∈ g, 1 ≤ x ∧ x ≤ 60) (hgl : g.length ≤ 1000) (r : Nat) (hr : r < a) (n : Int) (hn : 0 ≤ n) (c : Int)
    (cont : ∀ L ch, LInv g a L → (ch = true → costL L < c) → (ch = false → costL L ≤ c ∧ ∀ r', r' < r + 1 → Relaxed g a L r') → ∃ out, Ev (fun k => impl_leasts.l2 k g (a : Int) L ch (a : Int) ((r + 1 : Nat) : Int)) out ∧ LGood g a out) :
    ∀ (d j : Nat) (L : List Int) (ch : Bool), j + d = g.length → LInv g a L → L.getD r 0 = n → (ch = true → costL L < c) → (ch = false → costL L ≤ c ∧ (∀ r', r' < r → Relaxed g a L r') ∧ RelaxedTo g a L r j) →
      ∃ out, Ev (fun k => impl_leasts.l3 k g (a : Int) L ch (r : Int) n (a : Int) (r : Int) g (g.length : Int) (j : Int)) out ∧ LGood g a out := by
  intro d
  induction d with
  | zero =>
    intro j L ch h1 h2 h3 h4 h5
    obtain ⟨out, ho, hg'⟩ := cont L ch h2 h4 (fun e => ⟨(h5 e).1, fun r' hr' => by
      by_cases e2 : r' = r
      · subst e2
        intro _ x hx
        have := (h5 e).2.2
        unfold RelaxedTo at this
        rw [List.take_of_length_le (by omega)] at this
        exact this x hx
      · exact (h5 e).2.1 r' (by omega)⟩)
    refine ⟨out, Ev.step (fun k => by rw [impl_leasts.l3]) ?_, hg'⟩
    refine ev_neg (by omega) ?_
    rw [wadd1 (by omega)]
    exact ho
  | succ d ih =>
    intro j L ch h1 h2 h3 h4 h5
    have hj : j < g.length := by omega
    have hxm := List.getElem_mem hj
    have hx := hg _ hxm
    have hb := h2.bound ha' hr
    have hL := h2.1
    have m0 := Int.emod_nonneg ((r : Int) + g[j]) (show (a : Int) ≠ 0 by omega)
    have m1 := Int.emod_lt_of_pos ((r : Int) + g[j]) (show (0 : Int) < (a : Int) by omega)
    obtain ⟨t, ht⟩ : ∃ t : Nat, ((r : Int) + g[j]) % (a : Int) = (t : Int) := ⟨(((r : Int) + g[j]) % (a : Int)).toNat, by omega⟩
    have e1 : wrap64 ((r : Int) + g[j]) = (r : Int) + g[j] := w64 (by omega) (by omega)
    have e2 : Int.tmod ((r : Int) + g[j]) (a : Int) = (t : Int) := by rw [Int.tmod_eq_emod_of_nonneg (by omega), ht]
    have e3 : wrap64 (n + g[j]) = n + g[j] := w64 (by omega) (by omega)
    have hta : t < a := by omega
    by_cases hl : L.getD t 0 < 0 ∨ n + g[j] < L.getD t 0
    · obtain ⟨s1, s2, _, s4⟩ := h2.step ha ha' hr (by omega) hxm hx.1 hx.2 ht (by rw [h3]; exact hl)
      rw [h3] at s1 s2
      obtain ⟨out, ho, hg'⟩ := ih (j + 1) (L.set t (n + g[j])) true (by omega) s1 (by rw [getD_set, if_neg (fun hh => s4 hh.1)]; exact h3) (fun _ => by
        cases ch with
        | true => have := h4 rfl; omega
        | false => have := (h5 rfl).1; omega) (fun e => by cases e)
      refine ⟨out, Ev.step (fun k => by rw [impl_leasts.l3]) ?_, hg'⟩
      rw [wadd1 (by omega), rd_nat, getD_get hj, e1, e2, e3, rd_nat, Int.toNat_natCast]
      refine ev_pos (by omega) (ev_pos (by omega) (ev_pos (by omega) (ev_neg (by omega) (ev_pos (by omega) (ev_pos (by omega) ?_)))))
      by_cases hn' : L.getD t 0 < 0
      · exact ev_pos hn' ho
      · exact ev_neg hn' (ev_pos (by omega) ho)
    · obtain ⟨out, ho, hg'⟩ := ih (j + 1) L ch (by omega) h2 h3 h4 (fun e => ⟨(h5 e).1, (h5 e).2.1, fun x hx' => by
        rw [List.take_succ_eq_append_getElem hj] at hx'
        rcases List.mem_append.1 hx' with hx' | hx'
        · exact (h5 e).2.2 x hx'
        · obtain rfl := List.mem_singleton.1 hx'
          unfold RelaxedAt
          rw [ht, Int.toNat_natCast]
          omega⟩)
      refine ⟨out, Ev.step (fun k => by rw [impl_leasts.l3]) ?_, hg'⟩
      rw [wadd1 (by omega), rd_nat, getD_get hj, e1, e2, e3, rd_nat, Int.toNat_natCast]
      exact ev_pos (by omega) (ev_pos (by omega) (ev_pos (by omega) (ev_neg (by omega) (ev_pos (by omega) (ev_pos (by omega) (ev_neg (by omega) (ev_neg (by omega) ho)))))))
theorem impl_leasts.l2_ev (g : List Int) (a : Nat) (ha : 1 ≤ a) (ha' : a ≤ 60) (hg : ∀ x ∈ g, 1 ≤ x ∧ x ≤ 60) (hgl : g.length ≤ 1000) (c : Int)
    (cont : ∀ L, LInv g a L → costL L < c → ∃ out, Ev (fun k => impl_leasts.l1 k g (a : Int) L true) out ∧ LGood g a out) :
    ∀ (d r : Nat) (L : List Int) (ch : Bool), r + d = a → LInv g a L → (ch = true → costL L < c) → (ch = false → costL L ≤ c ∧ ∀ r', r' < r → Relaxed g a L r') →
      ∃ out, Ev (fun k => impl_leasts.l2 k g (a : Int) L ch (a : Int) (r : Int)) out ∧ LGood g a out := by
  intro d
  induction d with
  | zero =>
    intro r L ch h1 h2 h3 h4
    cases ch with
    | true =>
      obtain ⟨out, ho, hg'⟩ := cont L h2 (h3 rfl)
      refine ⟨out, Ev.step (fun k => by rw [impl_leasts.l2]) ?_, hg'⟩
      exact ev_neg (by omega) ho
    | false =>
      refine ⟨L, Ev.step (fun k => by rw [impl_leasts.l2]) ?_, h2, fun r' hr' => (h4 rfl).2 r' (by omega)⟩
      refine ev_neg (by omega) ?_
      refine Ev.step (fun k => by rw [impl_leasts.l1]) ?_
      exact ev_neg (by simp) (Ev.now _)
  | succ d ih =>
    intro r L ch h1 h2 h3 h4
    have hL := h2.1
    by_cases hneg : L.getD r 0 < 0
    · obtain ⟨out, ho, hg'⟩ := ih (r + 1) L ch (by omega) h2 h3 (fun e => ⟨(h4 e).1, fun r' hr' => by
        by_cases e2 : r' = r
        · subst e2; intro h0; omega
        · exact (h4 e).2 r' (by omega)⟩)
      refine ⟨out, Ev.step (fun k => by rw [impl_leasts.l2]) ?_, hg'⟩
      rw [rd_nat, wadd1 (by omega)]
      exact ev_pos (by omega) (ev_pos (by omega) (ev_pos (by omega) (ev_pos hneg ho)))
    · obtain ⟨out, ho, hg'⟩ := impl_leasts.l3_ev g a ha ha' hg hgl r (by omega) (L.getD r 0) (by omega) c (fun L' ch' i1 i2 i3 => ih (r + 1) L' ch' (by omega) i1 i2 i3) g.length 0 L ch (by omega) h2 rfl h3 (fun e => ⟨(h4 e).1, (h4 e).2, fun x hx => by simp at hx⟩)
      refine ⟨out, Ev.step (fun k => by rw [impl_leasts.l2]) ?_, hg'⟩
      rw [rd_nat]
      exact ev_pos (by omega) (ev_pos (by omega) (ev_pos (by omega) (ev_neg hneg ho)))
theorem impl_leasts.l1_ev (g : List Int) (a : Nat) (ha : 1 ≤ a) (ha' : a ≤ 60) (hg : ∀ x ∈ g, 1 ≤ x ∧ x ≤ 60) (hgl : g.length ≤ 1000) :
    ∀ (c : Nat) (L : List Int), LInv g a L → costL L ≤ c → ∃ out, Ev (fun k => impl_leasts.l1 k g (a : Int) L true) out ∧ LGood g a out := by
  intro c
  induction c with
  | zero =>
    intro L h1 h2
    have hL := h1.1
    obtain ⟨out, ho, hg'⟩ := impl_leasts.l2_ev g a ha ha' hg hgl 0 (fun L' _ h => by have := costL_nonneg L'; omega) a 0 L false (by omega) h1 (fun e => by cases e) (fun _ => ⟨by omega, fun r' hr' => by omega⟩)
    refine ⟨out, Ev.step (fun k => by rw [impl_leasts.l1]) ?_, hg'⟩
    refine ev_pos rfl ?_
    rw [hL]; exact ho
  | succ c ih =>
    intro L h1 h2
    have hL := h1.1
    obtain ⟨out, ho, hg'⟩ := impl_leasts.l2_ev g a ha ha' hg hgl ((c : Int) + 1) (fun L' i1 i2 => ih L' i1 (by omega)) a 0 L false (by omega) h1 (fun e => by cases e) (fun _ => ⟨by omega, fun r' hr' => by omega⟩)
    refine ⟨out, Ev.step (fun k => by rw [impl_leasts.l1]) ?_, hg'⟩
    refine ev_pos rfl ?_
    rw [hL]; exact ho
theorem impl_leasts.l0_ev (g : List Int) (a : Nat) (ha : 1 ≤ a) (ha' : a ≤ 60) (hg : ∀ x ∈ g, 1 ≤ x ∧ x ≤ 60) (hgl : g.length ≤ 1000) :
    ∀ (d j : Nat) (T : List Int), j + d = a → T.length = a → (∀ i, i < j → T.getD i 0 = -1) → ∃ out, Ev (fun k => impl_leasts.l0 k g (a : Int) T (a : Int) (j : Int)) out ∧ LGood g a out := by
  intro d
  induction d with
  | zero =>
    intro j T h1 h2 h3
    have e : T = List.replicate a (-1) := by
      apply List.ext_getElem (by simp [h2])
      intro i i1 i2
      have := h3 i (by omega)
      rw [getD_get i1] at this
      rw [this]; simp
    obtain ⟨out, ho, hg'⟩ := impl_leasts.l1_ev g a ha ha' hg hgl (costL ((List.replicate a (-1 : Int)).set 0 0)).toNat _ (LInv.init ha) (by have := costL_nonneg ((List.replicate a (-1 : Int)).set 0 0); omega)
    refine ⟨out, Ev.step (fun k => by rw [impl_leasts.l0]) ?_, hg'⟩
    refine ev_neg (by omega) (ev_pos (by omega) ?_)
    rw [e]; exact ho
  | succ d ih =>
    intro j T h1 h2 h3
    obtain ⟨out, ho, hg'⟩ := ih (j + 1) (T.set j (-1)) (by omega) (by simp [h2]) (fun i hi => by
      rw [getD_set]
      by_cases e : j = i ∧ i < T.length
      · rw [if_pos e]
      · rw [if_neg e]; exact h3 i (by omega))
    refine ⟨out, Ev.step (fun k => by rw [impl_leasts.l0]) ?_, hg'⟩
    refine ev_pos (by omega) (ev_pos (by omega) (ev_pos (by omega) ?_))
    rw [wadd1 (by omega), Int.toNat_natCast]
    exact ho
theorem impl_leasts.ev (g : List Int) (a : Nat) (ha : 1 ≤ a) (ha' : a ≤ 60) (hg : ∀ x ∈ g, 1 ≤ x ∧ x ≤ 60) (hgl : g.length ≤ 1000) : ∃ L, Ev (fun k => impl_leasts.f k g (a : Int)) L ∧ IsLeasts g a L := by
  obtain ⟨out, ho, hg'⟩ := impl_leasts.l0_ev g a ha ha' hg hgl a 0 (List.replicate a 0) (by omega) (by simp) (fun i hi => by omega)
  refine ⟨out, ?_, hg'.isLeasts ha ha' hg⟩
  unfold impl_leasts.f
  refine ev_pos (by omega) (ev_pos (by omega) ?_)
  simp only [Option.bind_some, Int.toNat_natCast, List.length_replicate]
  exact ho

/-! impl_Generates -/
theorem impl_Generates.ev (l : List Int) (n : Int) (hl : l.length < 4611686018427387904) : Ev (fun k => impl_Generates.f k l n) (genV l n) := by
  unfold impl_Generates.f genV
  refine Ev.bind (impl_usable.ev l hl) ?_
  simp only [impl_within.eq, Option.bind_some]
  by_cases c : (∀ x ∈ l, 1 ≤ x ∧ x ≤ 60) ∧ 1 ≤ l.length ∧ l.length ≤ 20
  · rw [B_true c]
    refine ev_pos rfl ?_
    by_cases c2 : 0 ≤ n ∧ n ≤ 1000000
    · refine ev_pos (decide_eq_true c2) (ev_pos (by omega) ?_)
      have hm : l.getD 0 0 ∈ l := getD_mem (by omega)
      have hr := c.1 _ hm
      obtain ⟨a, ha⟩ : ∃ a : Nat, (a : Int) = l.getD 0 0 := ⟨(l.getD 0 0).toNat, by omega⟩
      have e0 : Box (rd l 0 = (a : Int)) := ⟨by rw [ha]; simp [rd]⟩
      rw [← ha] at hm hr
      obtain ⟨L, hL, hI⟩ := impl_leasts.ev l a (by omega) (by omega) c.1 (by omega)
      have hLl := hI.1
      have m0 := Int.emod_nonneg n (show (a : Int) ≠ 0 by omega)
      have m1 := Int.emod_lt_of_pos n (show (0 : Int) < (a : Int) by omega)
      have e1 : Box (Int.tmod n (a : Int) = n % (a : Int)) := ⟨Int.tmod_eq_emod_of_nonneg c2.1⟩
      have e2 : Box (rd L (n % (a : Int)) = L.getD (n % (a : Int)).toNat 0) := ⟨rfl⟩
      have hgen := hI.gen hm (by omega) n
      rw [e0.out]
      refine Ev.bind hL ?_
      rw [e1.out, e2.out]
      refine ev_neg (by omega) (ev_pos (by omega) (ev_pos (by omega) ?_))
      by_cases c3 : L.getD (n % (a : Int)).toNat 0 ≥ 0
      · refine ev_pos c3 ?_
        rw [B_dec, B_congr (q := ((∀ x ∈ l, 1 ≤ x ∧ x ≤ 60) ∧ 1 ≤ l.length ∧ l.length ≤ 20) ∧ (0 ≤ n ∧ n ≤ 1000000) ∧ Gen l n) ⟨fun h => ⟨c, c2, hgen.2 ⟨c3, h⟩⟩, fun h => (hgen.1 h.2.2).2⟩]
        exact Ev.now _
      · refine ev_neg c3 ?_
        rw [B_false (fun h => c3 (hgen.1 h.2.2).1)]
        exact Ev.now _
    · refine ev_neg (by simpa using c2) ?_
      rw [B_false (fun h => c2 h.2.1)]
      exact Ev.now _
  · rw [B_false c, B_false (fun h => c h.1)]
    exact ev_neg (by simp) (Ev.now _)

/-! impl_IsAscending -/
theorem impl_IsAscending.l0_ev (l : List Int) (hl : l.length < 4611686018427387904) : ∀ (d j : Nat), l.length ≤ j + 1 + d → Ev (fun k => impl_IsAscending.l0 k l ((j + 1 : Nat) : Int)) (B (∀ i, j ≤ i → i + 1 < l.length → l.getD i 0 < l.getD (i + 1) 0)) := by
  intro d
  induction d with
  | zero =>
    intro j h1
    refine Ev.step (fun k => by rw [impl_IsAscending.l0]) ?_
    rw [B_true (fun i _ _ => by omega)]
    exact ev_neg (by omega) (Ev.now _)
  | succ d ih =>
    intro j h1
    refine Ev.step (fun k => by rw [impl_IsAscending.l0]) ?_
    by_cases hj : j + 1 < l.length
    · have e1 : wrap64 (((j + 1 : Nat) : Int) - 1) = (j : Int) := by rw [w64 (by omega) (by omega)]; omega
      rw [e1, wadd1 (by omega), rd_nat, rd_nat]
      refine ev_pos (by omega) (ev_pos (by omega) (ev_pos (by omega) (ev_pos (by omega) ?_)))
      by_cases e : l.getD (j + 1) 0 ≤ l.getD j 0
      · refine ev_pos e ?_
        rw [B_false (fun h => by have := h j (by omega) hj; omega)]
        exact Ev.now _
      · refine ev_neg e ?_
        rw [B_congr (q := ∀ i, j + 1 ≤ i → i + 1 < l.length → l.getD i 0 < l.getD (i + 1) 0) ⟨fun h i hi => h i (by omega), fun h i hi h2 => by
          by_cases e3 : i = j
          · subst e3; omega
          · exact h i (by omega) h2⟩]
        exact ih (j + 1) (by omega)
    · rw [B_true (fun i _ _ => by omega)]
      exact ev_neg (by omega) (Ev.now _)
theorem impl_IsAscending.ev (l : List Int) (hl : l.length < 4611686018427387904) : Ev (fun k => impl_IsAscending.f k l) (B (Asc l)) := by
  unfold impl_IsAscending.f
  rw [B_congr (p := Asc l) (q := ∀ i, 0 ≤ i → i + 1 < l.length → l.getD i 0 < l.getD (i + 1) 0) ⟨fun h i _ => h i, fun h i => h i (by omega)⟩]
  exact impl_IsAscending.l0_ev l hl l.length 0 (by omega)

/-! impl_GcdOf -/
theorem impl_GcdOf.l0_ev : ∀ (m n : Nat), Ev (fun k => impl_GcdOf.l0 k (m : Int) (n : Int)) ((Nat.gcd m n : Nat) : Int) := by
  intro m
  induction m using Nat.strongRecOn with
  | _ m ih =>
    intro n
    refine Ev.step (fun k => by rw [impl_GcdOf.l0]) ?_
    by_cases e : m = 0
    · subst e
      rw [Nat.gcd_zero_left]
      exact ev_pos (by omega) (Ev.now _)
    · refine ev_neg (by omega) ?_
      rw [← Int.ofNat_tmod, Nat.gcd_rec m n]
      exact ih (n % m) (Nat.mod_lt _ (by omega)) m
theorem impl_GcdOf.ev (a b : Int) : Ev (fun k => impl_GcdOf.f k a b) (gcdV a b) := by
  unfold impl_GcdOf.f
  refine Ev.bind (impl_allWithin.ev [a, b] (-1000000) 1000000 (by simp)) ?_
  by_cases h : (-1000000 ≤ a ∧ a ≤ 1000000) ∧ (-1000000 ≤ b ∧ b ≤ 1000000)
  · rw [B_true (by simpa using h), gcdV, if_pos h, mx_abs h.1.1 h.1.2, mx_abs h.2.1 h.2.2]
    exact ev_pos rfl (impl_GcdOf.l0_ev _ _)
  · rw [B_false (by simpa using h), gcdV, if_neg h]
    exact ev_neg (by simp) (Ev.now _)

/-! impl_GcdOfList -/
theorem impl_GcdOfList.l0_ev (l : List Int) (hl : l.length < 4611686018427387904) : ∀ (d j : Nat) (g : Int), j + d = l.length → Ev (fun k => impl_GcdOfList.l0 k g l (l.length : Int) (j : Int)) ((l.drop j).foldl gcdV g) := by
  intro d
  induction d with
  | zero =>
    intro j g h1
    refine Ev.step (fun k => by rw [impl_GcdOfList.l0]) ?_
    rw [List.drop_of_length_le (by omega)]
    exact ev_neg (by omega) (Ev.now _)
  | succ d ih =>
    intro j g h1
    have hj : j < l.length := by omega
    refine Ev.step (fun k => by rw [impl_GcdOfList.l0]) ?_
    rw [wadd1 (by omega), rd_nat, getD_get hj, List.drop_eq_getElem_cons hj, List.foldl_cons]
    exact ev_pos (by omega) (ev_pos (by omega) (ev_pos (by omega) (Ev.bind (impl_GcdOf.ev _ _) (ih (j + 1) _ (by omega)))))
theorem impl_GcdOfList.ev (l : List Int) (hl : l.length < 4611686018427387904) : Ev (fun k => impl_GcdOfList.f k l) (gcdLV l) := by
  unfold impl_GcdOfList.f gcdLV
  exact impl_GcdOfList.l0_ev l hl l.length 0 0 (by omega)

/-! impl_IsSemigroup -/
theorem impl_IsSemigroup.l1_ev (g L : List Int) (a : Nat) (hg0 : 0 < g.length) (ha : (a : Int) = g.getD 0 0) (ha' : a ≤ 60) (hL : L.length = a) (hb : ∀ r, r < a → -10 ≤ L.getD r 0 ∧ L.getD r 0 ≤ 100000) : ∀ (d j : Nat), j + d = a → Ev (fun k => impl_IsSemigroup.l1 k g L (a : Int) (j : Int)) (B (∀ r, j ≤ r → r < a → L.getD r 0 - (a : Int) < 200)) := by
  intro d
  induction d with
  | zero =>
    intro j h1
    refine Ev.step (fun k => by rw [impl_IsSemigroup.l1]) ?_
    rw [B_true (fun r _ _ => by omega)]
    exact ev_neg (by omega) (Ev.now _)
  | succ d ih =>
    intro j h1
    have hj := hb j (by omega)
    have e0 : Box (rd g 0 = (a : Int)) := ⟨by rw [ha]; simp [rd]⟩
    refine Ev.step (fun k => by rw [impl_IsSemigroup.l1]) ?_
    rw [e0.out, rd_nat, wadd1 (by omega), w64 (n := L.getD j 0 - (a : Int)) (by omega) (by omega)]
    refine ev_pos (by omega) (ev_pos (by omega) (ev_pos (by omega) (ev_pos (by omega) ?_)))
    by_cases c : L.getD j 0 - (a : Int) ≥ 200
    · rw [B_false (fun h => by have := h j (by omega) (by omega); omega)]
      exact ev_pos c (Ev.now _)
    · rw [B_congr (q := ∀ r, j + 1 ≤ r → r < a → L.getD r 0 - (a : Int) < 200) ⟨fun h r h1 h2 => h r (by omega) h2, fun h r h1 h2 => by
        by_cases e : r = j
        · subst e; omega
        · exact h r (by omega) h2⟩]
      exact ev_neg c (ih (j + 1) (by omega))
theorem impl_IsSemigroup.l0_ev (g : List Int) (c1 : 1 ≤ g.length ∧ g.length ≤ 12) (c2 : ∀ x ∈ g, 1 ≤ x ∧ x ≤ 60) (c3 : Asc g) (c4 : gcdLV g = 1) : ∀ (d j : Nat), j + d = g.length → 1 ≤ j → (∀ i, 1 ≤ i → i < j → ¬ Gen (g.take i) (g.getD i 0)) → Ev (fun k => impl_IsSemigroup.l0 k g (j : Int)) (B (SG g)) := by
  intro d
  induction d with
  | zero =>
    intro j h1 h2 h3
    have hm : g.getD 0 0 ∈ g := getD_mem (by omega)
    have hr := c2 _ hm
    obtain ⟨a, ha⟩ : ∃ a : Nat, (a : Int) = g.getD 0 0 := ⟨(g.getD 0 0).toNat, by omega⟩
    have e0 : Box (rd g 0 = (a : Int)) := ⟨by rw [ha]; simp [rd]⟩
    rw [← ha] at hm hr
    obtain ⟨L, hL, hI⟩ := impl_leasts.ev g a (by omega) (by omega) c2 (by omega)
    have hend := hI.ends_leasts hm (by omega) c2 c4
    have hLl := hI.1
    refine Ev.step (fun k => by rw [impl_IsSemigroup.l0]) ?_
    rw [e0.out]
    refine ev_neg (by omega) (ev_pos (by omega) (Ev.bind hL ?_))
    have e1 : Box ((L.length : Int) = (a : Int)) := ⟨by rw [hI.1]⟩
    rw [e1.out, B_congr (p := SG g) (q := ∀ r, 0 ≤ r → r < a → L.getD r 0 - (a : Int) < 200) ⟨fun h r _ hr' => hend.2 h.2.2.2.2.2 r hr', fun h => ⟨c1, c2, c3, c4, fun i i1 i2 => h3 i i1 (by omega), hend.1 (fun r hr' => h r (by omega) hr')⟩⟩]
    refine impl_IsSemigroup.l1_ev g L a (by omega) ha (by omega) hI.1 (fun r hr' => ?_) a 0 (by omega)
    have full : 0 ≤ L.getD r 0 := by
      apply Classical.byContradiction
      intro hc
      obtain ⟨m, hm', em⟩ := Cls.all (g := g) (a := (a : Int)) (by omega) c2 (r : Int) (by rw [c4]; exact Int.one_dvd _)
      refine (hI.2 r hr').1 (by omega) m hm' ?_
      rw [em, Int.emod_eq_of_lt (by omega) (by omega)]
    have := ((hI.2 r hr').2 full).2
    omega
  | succ d ih =>
    intro j h1 h2 h3
    have hj : j < g.length := by omega
    have hx := c2 _ (getD_mem hj)
    refine Ev.step (fun k => by rw [impl_IsSemigroup.l0]) ?_
    rw [wadd1 (by omega), rd_nat, Int.toNat_natCast]
    refine ev_pos (by omega) (ev_pos (by omega) (ev_pos (by omega) (Ev.bind (impl_Generates.ev _ _ (by simp; omega)) ?_)))
    have hlen : (g.take j).length = j := by simp; omega
    have hgv : genV (g.take j) (g.getD j 0) = B (Gen (g.take j) (g.getD j 0)) := B_congr ⟨fun h => h.2.2, fun h => ⟨⟨fun x hx' => c2 x (List.take_subset _ _ hx'), by omega, by omega⟩, by omega, h⟩⟩
    rw [hgv]
    by_cases c : Gen (g.take j) (g.getD j 0)
    · rw [B_true c, B_false (fun h => h.2.2.2.2.1 j h2 hj c)]
      exact ev_pos rfl (Ev.now _)
    · rw [B_false c]
      refine ev_neg (by simp) (ih (j + 1) (by omega) (by omega) (fun i i1 i2 => ?_))
      by_cases e : i = j
      · subst e; exact c
      · exact h3 i i1 (by omega)
theorem impl_IsSemigroup.ev (g : List Int) (hgl : g.length ≤ 1048576) : Ev (fun k => impl_IsSemigroup.f k g) (B (SG g)) := by
  have out : Box (¬ SG g → Ev (fun k => impl_IsSemigroup.j0 k g true) (B (SG g))) := ⟨fun h => by
    rw [B_false h]
    refine Ev.step (fun k => by rw [impl_IsSemigroup.j0]) ?_
    exact ev_pos rfl (Ev.now _)⟩
  unfold impl_IsSemigroup.f
  simp only [impl_within.eq, Option.bind_some]
  by_cases c1 : 1 ≤ (g.length : Int) ∧ (g.length : Int) ≤ 12
  · refine ev_pos (decide_eq_true c1) ?_
    refine Ev.bind (impl_allWithin.ev g 1 60 (by omega)) ?_
    by_cases c2 : ∀ x ∈ g, 1 ≤ x ∧ x ≤ 60
    · rw [B_true c2]
      refine ev_pos rfl (Ev.bind (impl_IsAscending.ev g (by omega)) ?_)
      by_cases c3 : Asc g
      · rw [B_true c3]
        refine ev_pos rfl (Ev.bind (impl_GcdOfList.ev g (by omega)) ?_)
        by_cases c4 : gcdLV g = 1
        · refine Ev.step (fun k => by rw [impl_IsSemigroup.j0]) ?_
          refine ev_neg (by simp [c4]) ?_
          exact impl_IsSemigroup.l0_ev g (by omega) c2 c3 c4 (g.length - 1) 1 (by omega) (by omega) (fun i i1 i2 => by omega)
        · rw [show (gcdLV g != 1) = true by simp [c4]]
          exact out.out (fun h => c4 h.2.2.2.1)
      · rw [B_false c3]
        exact ev_neg (by simp) (out.out (fun h => c3 h.2.2.1))
    · rw [B_false c2]
      exact ev_neg (by simp) (out.out (fun h => c2 h.2.1))
  · exact ev_neg (by simpa using c1) (out.out (fun h => c1 (by have := h.1; omega)))

/-! impl_Contains -/
theorem impl_Contains.ev (g : List Int) (n : Int) (hgl : g.length ≤ 1048576) : Ev (fun k => impl_Contains.f k g n) (contV g n) := by
  unfold impl_Contains.f contV
  by_cases c1 : n < 0
  · rw [B_false (fun hh => by omega)]
    exact ev_pos c1 (Ev.now _)
  · refine ev_neg c1 (Ev.bind (impl_IsSemigroup.ev g hgl) ?_)
    by_cases h : SG g
    · rw [B_true h]
      refine ev_pos rfl ?_
      by_cases c2 : n ≥ 200
      · rw [B_true ⟨h, by omega, h.2.2.2.2.2 n c2⟩]
        exact ev_pos c2 (Ev.now _)
      · refine ev_neg c2 ?_
        obtain ⟨hm, hr⟩ := h.head
        have hlen := h.1
        obtain ⟨a, ha⟩ : ∃ a : Nat, (a : Int) = g.getD 0 0 := ⟨(g.getD 0 0).toNat, by omega⟩
        have e0 : Box (rd g 0 = (a : Int)) := ⟨by rw [ha]; simp [rd]⟩
        rw [← ha] at hm hr
        obtain ⟨L, hL, hI⟩ := impl_leasts.ev g a (by omega) (by omega) h.2.1 (by omega)
        have hLl := hI.1
        have m0 := Int.emod_nonneg n (show (a : Int) ≠ 0 by omega)
        have m1 := Int.emod_lt_of_pos n (show (0 : Int) < (a : Int) by omega)
        have e1 : Box (Int.tmod n (a : Int) = n % (a : Int)) := ⟨Int.tmod_eq_emod_of_nonneg (by omega)⟩
        have e2 : Box (rd L (n % (a : Int)) = L.getD (n % (a : Int)).toNat 0) := ⟨rfl⟩
        have hgen := hI.gen hm (by omega) n
        have hfull := hI.full hm (by omega) h.2.1 h.2.2.2.1 (n % (a : Int)).toNat (by omega)
        rw [e0.out]
        refine ev_pos (by omega) (Ev.bind hL ?_)
        rw [e1.out, e2.out]
        refine ev_neg (by omega) (ev_pos (by omega) (ev_pos (by omega) ?_))
        rw [B_dec, B_congr (q := SG g ∧ 0 ≤ n ∧ Gen g n) ⟨fun hh => ⟨h, by omega, hgen.2 ⟨hfull, hh⟩⟩, fun hh => (hgen.1 hh.2.2).2⟩]
        exact Ev.now _
    · rw [B_false h, B_false (fun hh => h hh.1)]
      exact ev_neg (by simp) (Ev.now _)

/-! impl_table -/
theorem impl_table.l0_ev (g L : List Int) (h : SG g) (a : Nat) (ha : (a : Int) = g.getD 0 0) (ha1 : 1 ≤ a) (ha2 : a ≤ 60) (hI : IsLeasts g a L) (hag : (a : Int) ∈ g) (m : Nat) (hm : m < 1000000000) :
    ∀ (d j : Nat) (T : List Bool), j + d = m + 1 → T.length = m + 1 → (∀ i, i < j → (T.getD i false = true ↔ Gen g (i : Int))) → ∃ T', Ev (fun k => impl_table.l0 k L T ((m + 1 : Nat) : Int) (j : Int) g) T' ∧ IsTable g (m + 1) T' := by
  have hLl := hI.1
  have hlen := h.1
  have e0 : Box (rd g 0 = (a : Int)) := ⟨by rw [ha]; simp [rd]⟩
  intro d
  induction d with
  | zero =>
    intro j T h1 h2 h3
    refine ⟨T, Ev.step (fun k => by rw [impl_table.l0]) ?_, h2, fun i hi => h3 i (by omega)⟩
    exact ev_neg (by omega) (Ev.now _)
  | succ d ih =>
    intro j T h1 h2 h3
    have m0 := Int.emod_nonneg (j : Int) (show (a : Int) ≠ 0 by omega)
    have m1 := Int.emod_lt_of_pos (j : Int) (show (0 : Int) < (a : Int) by omega)
    have hgen := hI.gen hag (by omega) (j : Int)
    have hfull := hI.full hag (by omega) h.2.1 h.2.2.2.1 ((j : Int) % (a : Int)).toNat (by omega)
    have e1 : Box (Int.tmod (j : Int) (a : Int) = (j : Int) % (a : Int)) := ⟨Int.tmod_eq_emod_of_nonneg (by omega)⟩
    have e2 : Box (rd L ((j : Int) % (a : Int)) = L.getD ((j : Int) % (a : Int)).toNat 0) := ⟨rfl⟩
    obtain ⟨T', ht, hT⟩ := ih (j + 1) (T.set j (decide (L.getD ((j : Int) % (a : Int)).toNat 0 ≤ (j : Int)))) (by omega) (by simp [h2]) (fun i hi => by
      rw [getD_set]
      by_cases e : j = i ∧ i < T.length
      · rw [if_pos e]
        obtain ⟨e, _⟩ := e
        subst e
        rw [decide_eq_true_iff, hgen]
        exact ⟨fun hh => ⟨hfull, hh⟩, fun hh => hh.2⟩
      · rw [if_neg e]
        exact h3 i (by omega))
    refine ⟨T', Ev.step (fun k => by rw [impl_table.l0]) ?_, hT⟩
    rw [e0.out, e1.out, e2.out, wadd1 (by omega), Int.toNat_natCast]
    exact ev_pos (by omega) (ev_pos (by omega) (ev_neg (by omega) (ev_pos (by omega) (ev_pos (by omega) (ev_pos (by omega) (ev_pos (by omega) ht))))))
theorem impl_table.ev (g : List Int) (h : SG g) (m : Nat) (hm : m < 1000000000) : ∃ T, Ev (fun k => impl_table.f k g (m : Int)) T ∧ IsTable g (m + 1) T := by
  obtain ⟨hm', hr⟩ := h.head
  have hlen := h.1
  obtain ⟨a, ha⟩ : ∃ a : Nat, (a : Int) = g.getD 0 0 := ⟨(g.getD 0 0).toNat, by omega⟩
  have e0 : Box (rd g 0 = (a : Int)) := ⟨by rw [ha]; simp [rd]⟩
  rw [← ha] at hm' hr
  obtain ⟨L, hL, hI⟩ := impl_leasts.ev g a (by omega) (by omega) h.2.1 (by omega)
  obtain ⟨T, ht, hT⟩ := impl_table.l0_ev g L h a ha (by omega) (by omega) hI hm' m hm (m + 1) 0 (List.replicate (m + 1) false) (by omega) (by simp) (fun i hi => by omega)
  refine ⟨T, ?_, hT⟩
  unfold impl_table.f
  rw [e0.out, wadd1 (by omega)]
  refine ev_pos (by omega) (Ev.bind hL (ev_pos (by omega) (ev_pos (by omega) ?_)))
  simp only [Option.bind_some, Int.toNat_natCast, List.length_replicate]
  exact ht

/-! impl_AperySet -/
theorem impl_AperySet.l0_ev (g : List Int) (h : SG g) (n : Nat) (hn : 1 ≤ n) (hn' : n ≤ 60) (T : List Bool) (hT : IsTable g (200 + n + 1) T) : ∀ (d r : Nat) (out : List Int), r + d = n → out.length = n → (∀ i, i < r → LeastIn g n i (out.getD i 0)) → (∀ i, r ≤ i → i < n → out.getD i 0 = 0) → ∃ L, Ev (fun k => impl_AperySet.l0 k (n : Int) out T (n : Int) (r : Int)) L ∧ IsAp g n L := by
  have hTl := hT.1
  intro d
  induction d with
  | zero =>
    intro r out h1 h2 h3 h4
    refine ⟨out, Ev.step (fun k => by rw [impl_AperySet.l0]) ?_, h2, fun i hi => h3 i (by omega)⟩
    exact ev_neg (by omega) (Ev.now _)
  | succ d ih =>
    intro r out h1 h2 h3 h4
    have top : ∃ w : Nat, 200 ≤ w ∧ w < 200 + n ∧ w % n = r := by
      have m0 := Int.emod_nonneg ((r : Int) - 200) (show (n : Int) ≠ 0 by omega)
      have m1 := Int.emod_lt_of_pos ((r : Int) - 200) (show (0 : Int) < (n : Int) by omega)
      refine ⟨(200 + ((r : Int) - 200) % (n : Int)).toNat, by omega, by omega, ?_⟩
      have e : ((((200 + ((r : Int) - 200) % (n : Int)).toNat % n : Nat)) : Int) = (r : Int) := by
        rw [Int.natCast_emod, Int.toNat_of_nonneg (by omega), Int.add_emod_emod, show 200 + ((r : Int) - 200) = (r : Int) by omega, Int.emod_eq_of_lt (by omega) (by omega)]
      omega
    obtain ⟨w, w1, w2, w3⟩ := top
    have inner : ∀ (d' v : Nat) (out : List Int), w ≤ v + d' → v ≤ w → out.length = n → (∀ i, i < r → LeastIn g n i (out.getD i 0)) → out.getD r 0 = (v : Int) → (∀ i, r < i → i < n → out.getD i 0 = 0) → (∀ m, m < v → m % n = r → ¬ Gen g (m : Int)) → ∃ L, Ev (fun k => impl_AperySet.l1 k (n : Int) out T (r : Int) (n : Int) (r : Int)) L ∧ IsAp g n L := by
      intro d'
      induction d' with
      | zero =>
        intro v out g1 g2 g3 g4 g5 g6 g7
        obtain rfl : v = w := by omega
        have c : Gen g (v : Int) := h.2.2.2.2.2 _ (by omega)
        obtain ⟨L, hL, hA⟩ := ih (r + 1) out (by omega) g3 (fun i hi => by
          by_cases e : i < r
          · exact g4 i e
          · have e2 : i = r := by omega
            subst e2
            rw [g5]
            exact least_nat h c w3 g7) (fun i i1 i2 => g6 i (by omega) i2)
        have e : Box (rd out (r : Int) = (v : Int)) := ⟨by rw [rd_nat]; exact g5⟩
        refine ⟨L, Ev.step (fun k => by rw [impl_AperySet.l1]) ?_, hA⟩
        rw [e.out, rdOf_nat, hT.at v (by omega), B_true c, ← Int.ofNat_tmod, w3, wadd1 (by omega)]
        exact ev_pos (by omega) (ev_pos (by omega) (ev_pos (by omega) (ev_pos (by omega) (ev_pos rfl (ev_neg (by omega) (ev_pos rfl hL))))))
      | succ d' ih' =>
        intro v out g1 g2 g3 g4 g5 g6 g7
        have e : Box (rd out (r : Int) = (v : Int)) := ⟨by rw [rd_nat]; exact g5⟩
        by_cases cc : Gen g (v : Int) ∧ v % n = r
        · obtain ⟨c, cr⟩ := cc
          obtain ⟨L, hL, hA⟩ := ih (r + 1) out (by omega) g3 (fun i hi => by
            by_cases e : i < r
            · exact g4 i e
            · have e2 : i = r := by omega
              subst e2
              rw [g5]
              exact least_nat h c cr g7) (fun i i1 i2 => g6 i (by omega) i2)
          refine ⟨L, Ev.step (fun k => by rw [impl_AperySet.l1]) ?_, hA⟩
          rw [e.out, rdOf_nat, hT.at v (by omega), B_true c, ← Int.ofNat_tmod, cr, wadd1 (by omega)]
          exact ev_pos (by omega) (ev_pos (by omega) (ev_pos (by omega) (ev_pos (by omega) (ev_pos rfl (ev_neg (by omega) (ev_pos rfl hL))))))
        · have hvw : v ≠ w := fun ee => cc ⟨by rw [ee]; exact h.2.2.2.2.2 _ (by omega), by rw [ee]; exact w3⟩
          obtain ⟨L, hL, hA⟩ := ih' (v + 1) (out.set r ((v + 1 : Nat) : Int)) (by omega) (by omega) (by simp [g3]) (fun i hi => by
            rw [getD_set, if_neg (fun hh => by omega)]; exact g4 i hi) (by rw [getD_set, if_pos ⟨rfl, by omega⟩]) (fun i i1 i2 => by
            rw [getD_set, if_neg (fun hh => by omega)]; exact g6 i i1 i2) (fun m hm hmr => by
            by_cases e2 : m = v
            · subst e2
              exact fun hg => cc ⟨hg, hmr⟩
            · exact g7 m (by omega) hmr)
          refine ⟨L, Ev.step (fun k => by rw [impl_AperySet.l1]) ?_, hA⟩
          rw [e.out, rdOf_nat, hT.at v (by omega), ← Int.ofNat_tmod, wadd1 (j := v) (by omega), Int.toNat_natCast]
          refine ev_pos (by omega) (ev_pos (by omega) (ev_pos (by omega) (ev_pos (by omega) ?_)))
          by_cases c : Gen g (v : Int)
          · rw [B_true c]
            exact ev_pos rfl (ev_neg (by omega) (ev_neg (fun hh => cc ⟨c, by omega⟩) hL))
          · rw [B_false c]
            exact ev_neg (by simp) hL
    obtain ⟨L, hL, hA⟩ := inner w 0 out (by omega) (by omega) h2 h3 (h4 r (by omega) (by omega)) (fun i i1 i2 => h4 i (by omega) i2) (fun m hm => by omega)
    refine ⟨L, Ev.step (fun k => by rw [impl_AperySet.l0]) ?_, hA⟩
    exact ev_pos (by omega) hL
theorem impl_AperySet.ev (g : List Int) (n : Int) (hgl : g.length ≤ 1048576) : ∃ L, Ev (fun k => impl_AperySet.f k g n) L ∧ ApV g n L := by
  unfold impl_AperySet.f
  have hc := impl_Contains.ev g n hgl
  simp only [impl_within.eq, Option.bind_some]
  have out : Box (¬ (SG g ∧ Gen g n ∧ 1 ≤ n ∧ n ≤ 60) → Ev (fun k => impl_AperySet.j0 k n true g) [] ∧ ApV g n []) := ⟨fun hh => ⟨by
    refine Ev.step (fun k => by rw [impl_AperySet.j0]) ?_
    exact ev_pos rfl (Ev.now _), .inl ⟨hh, rfl⟩⟩⟩
  by_cases c2 : 1 ≤ n ∧ n ≤ 60
  · by_cases c : contV g n = true
    · have hs := B_iff.1 c
      rw [c] at hc
      obtain ⟨m, rfl⟩ : ∃ m : Nat, n = (m : Int) := ⟨n.toNat, by omega⟩
      obtain ⟨T, ht, hT⟩ := impl_table.ev g hs.1 (200 + m) (by omega)
      obtain ⟨L, hL, hA⟩ := impl_AperySet.l0_ev g hs.1 m (by omega) (by omega) T hT m 0 (List.replicate m 0) (by omega) (by simp) (fun i hi => by omega) (fun i i1 i2 => by simp [List.getD_eq_getElem?_getD, List.getElem?_replicate, i2])
      refine ⟨L, ev_pos (decide_eq_true c2) (Ev.bind hc ?_), .inr ⟨⟨hs.1, hs.2.2, by omega, by omega⟩, hA⟩⟩
      refine Ev.step (fun k => by rw [impl_AperySet.j0]) ?_
      have e : Box (wrap64 (200 + (m : Int)) = ((200 + m : Nat) : Int)) := ⟨by rw [w64 (by omega) (by omega)]; omega⟩
      rw [e.out]
      simp only [Option.bind_some, Int.toNat_natCast, List.length_replicate]
      exact ev_neg (by simp) (ev_pos (by omega) (ev_pos (by omega) (Ev.bind ht hL)))
    · have c' : contV g n = false := by simpa using c
      rw [c'] at hc
      obtain ⟨o1, o2⟩ := out.out (fun hh => c (B_true ⟨hh.1, by omega, hh.2.1⟩))
      exact ⟨[], ev_pos (decide_eq_true c2) (Ev.bind hc o1), o2⟩
  · obtain ⟨o1, o2⟩ := out.out (fun hh => c2 ⟨hh.2.2.1, hh.2.2.2⟩)
    exact ⟨[], ev_neg (by simpa using c2) o1, o2⟩

/-! spec_l3Has -/
theorem spec_l3Has.ev (g : List Int) (h : SG g) (n : Int) : Ev (fun k => spec_l3Has.f k g n) (B (0 ≤ n ∧ Gen g n)) := by
  unfold spec_l3Has.f
  by_cases c1 : n < 0
  · refine ev_pos c1 ?_
    rw [B_false (fun hh => by omega), decide_eq_false (by omega)]
    exact Ev.now _
  · refine ev_neg c1 ?_
    by_cases c2 : n ≥ 200
    · refine ev_pos c2 ?_
      rw [B_true ⟨by omega, h.2.2.2.2.2 n c2⟩, decide_eq_true (by omega)]
      exact Ev.now _
    · refine ev_neg c2 ?_
      obtain ⟨m, rfl⟩ : ∃ m : Nat, n = (m : Int) := ⟨n.toNat, by omega⟩
      obtain ⟨T, ht, hT⟩ := spec_l3Table.ev g h.pos (fun x hx => by have := h.2.1 x hx; omega) (by have := h.1; omega) m (by omega)
      have hTl := hT.1
      refine Ev.bind ht (ev_pos (by omega) (ev_pos (by omega) ?_))
      rw [rdOf_nat, hT.at m (by omega), B_congr (q := 0 ≤ (m : Int) ∧ Gen g (m : Int)) ⟨fun hh => ⟨by omega, hh⟩, fun hh => hh.2⟩]
      exact Ev.now _

/-! spec_Contains -/
theorem spec_Contains.ev (g : List Int) (n : Int) (hgl : g.length ≤ 1048576) : Ev (fun k => spec_Contains.f k g n) (contV g n) := by
  unfold spec_Contains.f contV
  refine Ev.bind (spec_IsSemigroup.ev g hgl) ?_
  by_cases h : SG g
  · rw [B_true h, B_congr (q := 0 ≤ n ∧ Gen g n) ⟨fun hh => hh.2, fun hh => ⟨h, hh⟩⟩]
    exact ev_pos rfl (Ev.bind (spec_l3Has.ev g h n) (Ev.now _))
  · rw [B_false h, B_false (fun hh => h hh.1)]
    exact ev_neg (by simp) (Ev.now _)

/-! spec_l6Apery -/
theorem spec_l6Apery.l0_ev (g : List Int) (h : SG g) (n : Nat) (hn : 1 ≤ n) (hn' : n ≤ 60) (T : List Bool) (hT : IsTable g 261 T) : ∀ (d r : Nat) (out : List Int), r + d = n → out.length = r → (∀ i, i < r → LeastIn g n i (out.getD i 0)) → ∃ L, Ev (fun k => spec_l6Apery.l0 k (n : Int) T out (r : Int)) L ∧ IsAp g n L := by
  have hTl := hT.1
  intro d
  induction d with
  | zero =>
    intro r out h1 h2 h3
    refine ⟨out, Ev.step (fun k => by rw [spec_l6Apery.l0]) ?_, by omega, fun i hi => h3 i (by omega)⟩
    exact ev_neg (by omega) (Ev.now _)
  | succ d ih =>
    intro r out h1 h2 h3
    have inner : ∀ (d' v : Nat), 260 ≤ v + d' → v ≤ 199 + n → v % n = r → (∀ m, m < v → m % n = r → ¬ Gen g (m : Int)) → ∃ L, Ev (fun k => spec_l6Apery.l1 k (n : Int) T out (r : Int) (v : Int)) L ∧ IsAp g n L := by
      intro d'
      induction d' with
      | zero => intro v g1 g2 g3 g4; omega
      | succ d' ih' =>
        intro v g1 g2 g3 g4
        by_cases c : Gen g (v : Int)
        · obtain ⟨L, hL, hA⟩ := ih (r + 1) (out ++ [(v : Int)]) (by omega) (by simp; omega) (fun i hi => by
            by_cases e : i < r
            · have := h3 i e
              rw [List.getD_eq_getElem?_getD, List.getElem?_append_left (by omega), ← List.getD_eq_getElem?_getD]
              exact this
            · have e2 : i = r := by omega
              subst e2
              have e3 : (out ++ [(v : Int)]).getD i 0 = (v : Int) := by
                rw [List.getD_eq_getElem?_getD, List.getElem?_append_right (by omega)]
                simp [h2]
              rw [e3]
              exact least_nat h c g3 g4)
          refine ⟨L, Ev.step (fun k => by rw [spec_l6Apery.l1]) ?_, hA⟩
          rw [rdOf_nat, hT.at v (by omega), B_true c, wadd1 (by omega)]
          exact ev_pos (by omega) (ev_pos (by omega) (ev_pos rfl (ev_pos (by omega) hL)))
        · have hv : v < 200 := by
            apply Classical.byContradiction
            intro hc
            exact c (h.2.2.2.2.2 _ (by omega))
          obtain ⟨L, hL, hA⟩ := ih' (v + n) (by omega) (by omega) (by rw [Nat.add_mod_right]; exact g3) (fun m hm hmr => by
            by_cases e : m < v
            · exact g4 m e hmr
            · by_cases e2 : m = v
              · rw [e2]; exact c
              · exfalso
                have d1 := Nat.div_add_mod m n
                have d2 := Nat.div_add_mod v n
                rw [hmr] at d1
                rw [g3] at d2
                have e3 : n * (v / n) < n * (m / n) := by omega
                have e4 : v / n < m / n := Nat.lt_of_mul_lt_mul_left e3
                have e5 : n * (v / n + 1) ≤ n * (m / n) := Nat.mul_le_mul_left n e4
                rw [Nat.mul_add, Nat.mul_one] at e5
                omega)
          refine ⟨L, Ev.step (fun k => by rw [spec_l6Apery.l1]) ?_, hA⟩
          rw [rdOf_nat, hT.at v (by omega), B_false c, waddn (by omega) (by omega)]
          exact ev_pos (by omega) (ev_pos (by omega) (ev_neg (by simp) hL))
    obtain ⟨L, hL, hA⟩ := inner 260 r (by omega) (by omega) (Nat.mod_eq_of_lt (by omega)) (fun m hm hmr => by
      rw [Nat.mod_eq_of_lt (by omega)] at hmr; omega)
    refine ⟨L, Ev.step (fun k => by rw [spec_l6Apery.l0]) ?_, hA⟩
    exact ev_pos (by omega) hL
theorem spec_l6Apery.ev (g : List Int) (h : SG g) (n : Nat) (hn : 1 ≤ n) (hn' : n ≤ 60) : ∃ L, Ev (fun k => spec_l6Apery.f k g (n : Int)) L ∧ IsAp g n L := by
  obtain ⟨T, ht, hT⟩ := spec_l3Table.ev g h.pos (fun x hx => by have := h.2.1 x hx; omega) (by have := h.1; omega) 260 (by omega)
  obtain ⟨L, hL, hA⟩ := spec_l6Apery.l0_ev g h n hn hn' T hT n 0 [] (by omega) (by simp) (fun i hi => by omega)
  refine ⟨L, ?_, hA⟩
  unfold spec_l6Apery.f
  exact Ev.bind ht hL

/-! spec_AperySet -/
theorem spec_AperySet.ev (g : List Int) (n : Int) (hgl : g.length ≤ 1048576) : ∃ L, Ev (fun k => spec_AperySet.f k g n) L ∧ ApV g n L := by
  unfold spec_AperySet.f
  have hc := spec_Contains.ev g n hgl
  simp only [spec_l1In.eq, Option.bind_some]
  by_cases c : contV g n = true
  · have hs := B_iff.1 c
    rw [c] at hc
    by_cases c2 : 1 ≤ n ∧ n ≤ 60
    · obtain ⟨m, rfl⟩ : ∃ m : Nat, n = (m : Int) := ⟨n.toNat, by omega⟩
      obtain ⟨L, hL, hA⟩ := spec_l6Apery.ev g hs.1 m (by omega) (by omega)
      exact ⟨L, Ev.bind hc (ev_pos rfl (ev_pos (decide_eq_true c2) (Ev.bind hL (Ev.now _)))), .inr ⟨⟨hs.1, hs.2.2, by omega, by omega⟩, hA⟩⟩
    · exact ⟨[], Ev.bind hc (ev_pos rfl (ev_neg (by simpa using c2) (Ev.now _))), .inl ⟨fun hh => c2 ⟨hh.2.2.1, hh.2.2.2⟩, rfl⟩⟩
  · have c' : contV g n = false := by simpa using c
    rw [c'] at hc
    exact ⟨[], Ev.bind hc (ev_neg (by simp) (Ev.now _)), .inl ⟨fun hh => c (B_true ⟨hh.1, by omega, hh.2.1⟩), rfl⟩⟩

/-! spec_DrawFromApery -/
theorem wrap_le (n : Int) : wrap64 n ≤ 9223372036854775807 := by
  unfold wrap64
  omega
theorem ap_small {g L : List Int} (h : SG g) {n : Int} (hL : ApV g n L) : ∀ x ∈ L, x ≤ 300 := by
  intro x hx
  rcases hL with ⟨_, rfl⟩ | ⟨h1, h2⟩
  · cases hx
  · obtain ⟨j, hj, e⟩ := mem_getD hx
    have hl := h2.2 j (by have := h2.1; omega)
    have := hl.bound h (by have := h1.2.2.1; omega) (by have := h2.1; omega)
    omega
theorem spec_DrawFromApery.ev (l : List Int) (hl : l.length < 4611686018427387904) : ∃ r, Ev (fun k => spec_DrawFromApery.f k l) r ∧ r.length ≤ 1000 ∧ ∀ x ∈ r, x ≤ 9223372036854775807 := by
  obtain ⟨h, hh⟩ := spec_l1New.ev l hl
  obtain ⟨g, i1, h1, e1, hg, hi1⟩ := spec_l3Draw.ev l hl 0 (by omega) h
  have hgl := hg.1
  obtain ⟨L, hL, hA⟩ := spec_AperySet.ev g (rd g 0) (by omega)
  have hsm := ap_small hg hA
  have hLl : L.length ≤ 100 := by
    rcases hA with ⟨_, rfl⟩ | ⟨h1, h2⟩
    · simp
    · have := h2.1; omega
  obtain ⟨a, i2, h2, e2, ha, hi2⟩ := spec_l1Below.eq l hl i1 hi1 h1 6 (by omega)
  have start : ∀ r, Ev (fun k => if a = 0 then (if (L.length : Int) > 1 then (if 1 < (L.length : Int) then ((spec_l1Below.f l i2 h2 3).bind fun bt825 => (some (L.set (1 : Int).toNat (wrap64 ((rd L 1) + (wrap64 ((L.length : Int) * (wrap64 (bt825.1 - 1))))))))) else (none)) else (some L)) else (if a = 1 then ((spec_l1Below.f l i2 h2 20).bind fun bt829 => (if L.length < 17592186044416 then (some (L ++ [bt829.1])) else (none))) else (some L))) r → Ev (fun k => spec_DrawFromApery.f k l) r := by
    intro r hE
    unfold spec_DrawFromApery.f
    refine Ev.bind hh (Ev.bind e1 (ev_pos (by simp only []; omega) (Ev.bind hL ?_)))
    simp only []
    rw [e2]
    simp only [Option.bind_some]
    exact hE
  by_cases c0 : a = 0
  · by_cases c1 : (L.length : Int) > 1
    · obtain ⟨b, i3, h3, e3, hb, hi3⟩ := spec_l1Below.eq l hl i2 hi2 h2 3 (by omega)
      refine ⟨L.set (1 : Int).toNat (wrap64 ((rd L 1) + (wrap64 ((L.length : Int) * (wrap64 (b - 1)))))), start _ (ev_pos c0 (ev_pos c1 (ev_pos (by omega) ?_))), ?_, ?_⟩
      · rw [e3]
        exact Ev.now _
      · rw [List.length_set]; omega
      · intro x hx
        rcases List.mem_or_eq_of_mem_set hx with hx | hx
        · have := hsm x hx; omega
        · rw [hx]; exact wrap_le _
    · exact ⟨L, start _ (ev_pos c0 (ev_neg c1 (Ev.now _))), by omega, fun x hx => by have := hsm x hx; omega⟩
  · by_cases c1 : a = 1
    · obtain ⟨b, i3, h3, e3, hb, hi3⟩ := spec_l1Below.eq l hl i2 hi2 h2 20 (by omega)
      refine ⟨L ++ [b], start _ (ev_neg c0 (ev_pos c1 ?_)), ?_, ?_⟩
      · rw [e3]
        simp only [Option.bind_some]
        exact ev_pos (by omega) (Ev.now _)
      · rw [List.length_append, List.length_singleton]; omega
      · intro x hx
        rw [List.mem_append, List.mem_singleton] at hx
        rcases hx with hx | hx
        · have := hsm x hx; omega
        · omega
    · exact ⟨L, start _ (ev_neg c0 (ev_neg c1 (Ev.now _))), by omega, fun x hx => by have := hsm x hx; omega⟩

/-! slices_Equal_int_int -/
theorem slices_Equal_int_int.l0_ev (x y : List Int) (hl : x.length = y.length) (hx : x.length < 4611686018427387904) : ∀ (d j : Nat), j + d = x.length → Ev (fun k => slices_Equal_int_int.l0 k x y (x.length : Int) (j : Int)) (B (x.drop j = y.drop j)) := by
  intro d
  induction d with
  | zero =>
    intro j h1
    refine Ev.step (fun k => by rw [slices_Equal_int_int.l0]) ?_
    rw [B_true (by rw [List.drop_of_length_le (by omega), List.drop_of_length_le (by omega)])]
    exact ev_neg (by omega) (Ev.now _)
  | succ d ih =>
    intro j h1
    have hj : j < x.length := by omega
    have hj' : j < y.length := by omega
    refine Ev.step (fun k => by rw [slices_Equal_int_int.l0]) ?_
    refine ev_pos (by omega) (ev_pos (by omega) (ev_pos (by omega) (ev_pos (by omega) ?_)))
    rw [wadd1 (by omega), rd_nat, rd_nat, getD_get hj, getD_get hj', List.drop_eq_getElem_cons hj, List.drop_eq_getElem_cons hj']
    by_cases e : x[j] = y[j]
    · refine ev_pos e ?_
      have := ih (j + 1) (by omega)
      rw [B_congr (q := x.drop (j + 1) = y.drop (j + 1)) (by simp only [e, List.cons.injEq, true_and])]
      exact this
    · refine ev_neg e ?_
      rw [B_false (fun h => e (List.cons.inj h).1)]
      exact Ev.now _
theorem slices_Equal_int_int.ev (x y : List Int) (hx : x.length < 4611686018427387904) : Ev (fun k => slices_Equal_int_int.f k x y) (B (x = y)) := by
  unfold slices_Equal_int_int.f
  by_cases e : x.length = y.length
  · refine ev_pos (by omega) ?_
    exact slices_Equal_int_int.l0_ev x y e hx x.length 0 (by omega)
  · refine ev_neg (by omega) ?_
    rw [B_false (fun h => e (by rw [h]))]
    exact Ev.now _

/-! impl_gapList -/
theorem impl_gapList.ev (l : List Int) (hl : l.length < 4611686018427387904) : Ev (fun k => impl_gapList.f k l) (B (GapL l)) := by
  unfold impl_gapList.f
  refine Ev.bind (impl_IsAscending.ev l hl) ?_
  by_cases h : Asc l
  · rw [B_true h, B_congr (q := ∀ x ∈ l, 1 ≤ x ∧ x ≤ 199) (by unfold GapL; simp [h])]
    exact ev_pos rfl (Ev.bind (impl_allWithin.ev l 1 199 hl) (Ev.now _))
  · rw [B_false h, B_false (fun hh => h hh.1)]
    exact ev_neg (by simp) (Ev.now _)

/-! impl_GapClash -/
set_option maxHeartbeats 4000000 in
theorem impl_GapClash.l1_ev (l : List Int) (T : List Bool) (n N : Nat) (hn : n ≤ 199) (hN : n < N) (hT : Marked T N (· ∈ l)) (htop : ∀ x ∈ l, x ≤ (n : Int)) : ∀ (d a : Nat), 1 ≤ a → n + 1 ≤ a + d → (∀ a' b', 1 ≤ a' → a' ≤ b' → b' ≤ n → a' < a → ¬ gcViol l a' b') → ∃ r, Ev (fun k => impl_GapClash.l1 k T (n : Int) (a : Int)) r ∧ First (gcViol l) n r := by
  have hTl := hT.1
  intro d
  induction d with
  | zero =>
    intro a h1 h2 h3
    refine ⟨_, Ev.step (fun k => by rw [impl_GapClash.l1]) ?_, .inl ⟨rfl, fun a' b' x y z => h3 a' b' x y z (by omega)⟩⟩
    exact ev_neg (by omega) (Ev.now _)
  | succ d ih =>
    intro a h1 h2 h3
    by_cases ha : a < n + 1
    · have inner : ∀ (d' b : Nat), a ≤ b → b ≤ n + 1 → n + 1 ≤ b + d' → (∀ b', a ≤ b' → b' < b → ¬ gcViol l a b') → ∃ r, Ev (fun k => impl_GapClash.l2 k T (n : Int) (a : Int) (b : Int)) r ∧ First (gcViol l) n r := by
        have past : ∀ b : Nat, n < a + b → b < 1000 → (∀ b', a ≤ b' → b' < b → ¬ gcViol l a b') → ∃ r, Ev (fun k => impl_GapClash.l2 k T (n : Int) (a : Int) (b : Int)) r ∧ First (gcViol l) n r := by
          intro b hb hb2 hv
          obtain ⟨r, hr, hf⟩ := ih (a + 1) (by omega) (by omega) (fun a' b' x y z w => by
            by_cases e : a' = a
            · subst e
              intro hv'
              by_cases e : b' < b
              · exact hv b' y e hv'
              · have := htop _ hv'.2.2; omega
            · exact h3 a' b' x y z (by omega))
          refine ⟨r, Ev.step (fun k => by rw [impl_GapClash.l2]) ?_, hf⟩
          refine ev_neg ?_ ?_
          · rw [w64 (by omega) (by omega)]; omega
          · rw [wadd1 (by omega)]; exact hr
        intro d'
        induction d' with
        | zero => intro b g1 g0 g2 g3; exact past b (by omega) (by omega) g3
        | succ d' ih' =>
          intro b g1 g0 g2 g3
          by_cases hb : a + b ≤ n
          · have e3 := Box.mk (waddn (a := a) (b := b) (by omega) (by omega))
            have next : Box (¬ gcViol l a b → ∃ r, Ev (fun k => impl_GapClash.l2 k T (n : Int) (a : Int) (wrap64 ((b : Int) + 1))) r ∧ First (gcViol l) n r) := Box.mk <| by
              intro hv
              rw [wadd1 (by omega)]
              exact ih' (b + 1) (by omega) (by omega) (by omega) (fun b' x y => by
                by_cases e : b' = b
                · subst e; exact hv
                · exact g3 b' x (by omega))
            have found : Box (gcViol l a b → First (gcViol l) n ((a : Int), (b : Int), true)) := Box.mk fun hv => .inr ⟨a, b, h1, g1, by omega, hv, rfl, fun a' b' x y z w => by
              rcases w with w | ⟨w, w2⟩
              · exact h3 a' b' x y z w
              · subst w; exact g3 b' y w2⟩
            by_cases ca : (a : Int) ∈ l
            · obtain ⟨r, hr, hf⟩ := next.out (fun hv => hv.1 ca)
              refine ⟨r, Ev.step (fun k => by rw [impl_GapClash.l2]) ?_, hf⟩
              rw [e3.out, rdOf_nat, (hT.2 a (by omega)).2 ca]
              exact ev_pos (by omega) (ev_pos (by omega) (ev_pos (by omega) (ev_pos rfl hr)))
            · have ta : T.getD a false = false := by
                cases e : T.getD a false with
                | false => rfl
                | true => exact absurd ((hT.2 a (by omega)).1 e) ca
              by_cases cb : (b : Int) ∈ l
              · obtain ⟨r, hr, hf⟩ := next.out (fun hv => hv.2.1 cb)
                refine ⟨r, Ev.step (fun k => by rw [impl_GapClash.l2]) ?_, hf⟩
                rw [e3.out, rdOf_nat, rdOf_nat, ta, (hT.2 b (by omega)).2 cb]
                exact ev_pos (by omega) (ev_pos (by omega) (ev_pos (by omega) (ev_neg (by simp) (ev_pos (by omega) (ev_pos (by omega) (ev_pos rfl hr))))))
              · have tb : T.getD b false = false := by
                  cases e : T.getD b false with
                  | false => rfl
                  | true => exact absurd ((hT.2 b (by omega)).1 e) cb
                by_cases cs : ((a + b : Nat) : Int) ∈ l
                · refine ⟨_, Ev.step (fun k => by rw [impl_GapClash.l2]) ?_, found.out ⟨ca, cb, cs⟩⟩
                  rw [e3.out, rdOf_nat, rdOf_nat, rdOf_nat, ta, tb, (hT.2 (a + b) (by omega)).2 cs]
                  exact ev_pos (by omega) (ev_pos (by omega) (ev_pos (by omega) (ev_neg (by simp) (ev_pos (by omega) (ev_pos (by omega) (ev_neg (by simp) (ev_pos (by omega) (ev_pos (by omega) (ev_pos rfl (Ev.now _))))))))))
                · have ts : T.getD (a + b) false = false := by
                    cases e : T.getD (a + b) false with
                    | false => rfl
                    | true => exact absurd ((hT.2 (a + b) (by omega)).1 e) cs
                  obtain ⟨r, hr, hf⟩ := next.out (fun hv => cs hv.2.2)
                  refine ⟨r, Ev.step (fun k => by rw [impl_GapClash.l2]) ?_, hf⟩
                  rw [e3.out, rdOf_nat, rdOf_nat, rdOf_nat, ta, tb, ts]
                  exact ev_pos (by omega) (ev_pos (by omega) (ev_pos (by omega) (ev_neg (by simp) (ev_pos (by omega) (ev_pos (by omega) (ev_neg (by simp) (ev_pos (by omega) (ev_pos (by omega) (ev_neg (by simp) hr)))))))))
          · exact past b (by omega) (by omega) g3
      obtain ⟨r, hr, hf⟩ := inner (n + 1) a (by omega) (by omega) (by omega) (fun b' x y => by omega)
      refine ⟨r, Ev.step (fun k => by rw [impl_GapClash.l1]) ?_, hf⟩
      exact ev_pos (by omega) hr
    · refine ⟨_, Ev.step (fun k => by rw [impl_GapClash.l1]) ?_, .inl ⟨rfl, fun a' b' x y z => h3 a' b' x y z (by omega)⟩⟩
      exact ev_neg (by omega) (Ev.now _)
theorem impl_GapClash.l0_ev (l : List Int) (hl : l.length < 4611686018427387904) (h0 : 0 < l.length) (hg : GapL l) (n : Nat) (hn : n ≤ 199) (hlast : (n : Int) = l.getD (l.length - 1) 0) (htop : ∀ x ∈ l, x ≤ (n : Int)) : ∀ (d j : Nat) (T : List Bool), j + d = l.length → Marked T 201 (· ∈ l.take j) → ∃ r, Ev (fun k => impl_GapClash.l0 k l T l (l.length : Int) (j : Int)) r ∧ First (gcViol l) n r := by
  intro d
  induction d with
  | zero =>
    intro j T h1 h2
    rw [List.take_of_length_le (by omega)] at h2
    obtain ⟨r, hr, hf⟩ := impl_GapClash.l1_ev l T n 201 hn (by omega) h2 htop n 1 (by omega) (by omega) (fun a' b' _ _ _ _ => by omega)
    refine ⟨r, Ev.step (fun k => by rw [impl_GapClash.l0]) ?_, hf⟩
    refine ev_neg (by omega) ?_
    have e1 : Box (wrap64 ((l.length : Int) - 1) = ((l.length - 1 : Nat) : Int)) := Box.mk (by rw [w64 (by omega) (by omega)]; omega)
    rw [e1.out, rd_nat, ← hlast]
    exact ev_pos (by omega) (ev_pos (by omega) hr)
  | succ d ih =>
    intro j T h1 h2
    have hj : j < l.length := by omega
    have m1 := hg.2 _ (List.getElem_mem hj)
    obtain ⟨r, hr, hf⟩ := ih (j + 1) (T.set (l[j]).toNat true) (by omega) (h2.step (by omega) (by omega) (fun y => by rw [List.take_succ_eq_append_getElem hj, List.mem_append, List.mem_singleton]))
    refine ⟨r, Ev.step (fun k => by rw [impl_GapClash.l0]) ?_, hf⟩
    rw [wadd1 (by omega), rd_nat, getD_get hj]
    have := h2.1
    exact ev_pos (by omega) (ev_pos (by omega) (ev_pos (by omega) (ev_pos (by omega) (ev_pos (by omega) hr))))
theorem impl_GapClash.ev (l : List Int) (hl : l.length < 4611686018427387904) : ∃ r, Ev (fun k => impl_GapClash.f k l) r ∧ GC l r := by
  by_cases hg : GapL l
  · by_cases e : l = []
    · subst e
      refine ⟨(0, 0, false), ?_, .inl ⟨.inr rfl, rfl⟩⟩
      unfold impl_GapClash.f
      refine Ev.bind (impl_gapList.ev [] hl) ?_
      rw [B_true hg]
      refine ev_pos rfl ?_
      refine Ev.step (fun k => by rw [impl_GapClash.j0]) ?_
      exact ev_pos (by simp) (Ev.now _)
    · have h0 : 0 < l.length := List.length_pos_iff.2 e
      have hm := hg.2 _ (getD_mem (l := l) (j := l.length - 1) (by omega))
      obtain ⟨n, hn⟩ : ∃ n : Nat, (n : Int) = l.getD (l.length - 1) 0 := ⟨(l.getD (l.length - 1) 0).toNat, by omega⟩
      obtain ⟨r, hr, hf⟩ := impl_GapClash.l0_ev l hl h0 hg n (by omega) hn (fun x hx => by rw [hn]; exact asc_le_last hg.1 hx) l.length 0 (List.replicate 201 false) (by omega) (Marked.init (by simp))
      refine ⟨r, ?_, .inr ⟨hg, e, by rw [← hn]; exact hf⟩⟩
      unfold impl_GapClash.f
      refine Ev.bind (impl_gapList.ev l hl) ?_
      rw [B_true hg]
      refine ev_pos rfl ?_
      refine Ev.step (fun k => by rw [impl_GapClash.j0]) ?_
      exact ev_neg (by simp; exact e) (ev_pos (by omega) hr)
  · refine ⟨(0, 0, false), ?_, .inl ⟨.inl hg, rfl⟩⟩
    unfold impl_GapClash.f
    refine Ev.bind (impl_gapList.ev l hl) ?_
    rw [B_false hg]
    refine ev_neg (by simp) ?_
    refine Ev.step (fun k => by rw [impl_GapClash.j0]) ?_
    exact ev_pos rfl (Ev.now _)

/-! impl_Gaps -/
theorem impl_Gaps.l0_ev (g : List Int) (n : Nat) (hn : n < 1000000000) (T : List Bool) (hT : IsTable g n T) : ∀ (d j : Nat) (out : List Int), j + d = n → out.length ≤ j → Ev (fun k => impl_Gaps.l0 k out T (n : Int) (j : Int)) (out ++ scanV (fun n => !gB g n) d j) := by
  have hTl := hT.1
  intro d
  induction d with
  | zero =>
    intro j out h1 h2
    refine Ev.step (fun k => by rw [impl_Gaps.l0]) ?_
    rw [scanV, List.append_nil]
    exact ev_neg (by omega) (Ev.now _)
  | succ d ih =>
    intro j out h1 h2
    refine Ev.step (fun k => by rw [impl_Gaps.l0]) ?_
    rw [rdOf_nat, hT.at j (by omega), wadd1 (by omega), scanV_cons]
    refine ev_pos (by omega) (ev_pos (by omega) (ev_pos (by omega) ?_))
    by_cases c : Gen g (j : Int)
    · rw [B_true c, if_neg (fun hc => (nB_iff.1 hc) c), List.nil_append]
      exact ev_pos rfl (ih (j + 1) out (by omega) (by omega))
    · rw [B_false c, if_pos (nB_iff.2 c), ← List.append_assoc]
      exact ev_neg (by simp) (ev_pos (by omega) (ih (j + 1) (out ++ [(j : Int)]) (by omega) (by simp; omega)))
theorem impl_Gaps.ev (g : List Int) (hgl : g.length ≤ 1048576) : Ev (fun k => impl_Gaps.f k g) (if B (SG g) = true then gapsV g else []) := by
  unfold impl_Gaps.f
  refine Ev.bind (impl_IsSemigroup.ev g hgl) ?_
  by_cases h : SG g
  · rw [B_true h]
    obtain ⟨T, ht, hT⟩ := impl_table.ev g h 200 (by omega)
    have hTl := hT.1
    have e : Box ((T.length : Int) = ((201 : Nat) : Int)) := ⟨by rw [hT.1]⟩
    refine ev_pos rfl (Ev.bind ht ?_)
    rw [e.out, if_pos rfl, ← gaps_to_200 h]
    have := impl_Gaps.l0_ev g 201 (by omega) T hT 201 0 [] (by omega) (by simp)
    rwa [List.nil_append] at this
  · rw [B_false h, if_neg (by simp)]
    exact ev_neg (by simp) (Ev.now _)

/-! impl_FromGaps -/
theorem impl_FromGaps.l2_ev (l : List Int) (T : List Bool) (hT : Marked T 401 (· ∈ l)) (x : Nat) (hx : x ≤ 400) (g : List Int) (hgl : g.length ≤ 1000) (r : List Int × Bool) : ∀ (d y : Nat) (red : Bool), 1 ≤ y → x < 2 * (y + d) → y ≤ 401 →
    Box ((red = true ∨ ∃ z : Nat, y ≤ z ∧ 2 * z ≤ x ∧ (z : Int) ∉ l ∧ ((x - z : Nat) : Int) ∉ l) → Ev (fun k => impl_FromGaps.l1 k l T ((x + 1 : Nat) : Int) g) r) →
    Box (¬ (red = true ∨ ∃ z : Nat, y ≤ z ∧ 2 * z ≤ x ∧ (z : Int) ∉ l ∧ ((x - z : Nat) : Int) ∉ l) → Ev (fun k => impl_FromGaps.l1 k l T ((x + 1 : Nat) : Int) (g ++ [(x : Int)])) r) →
    Ev (fun k => impl_FromGaps.l2 k l T (x : Int) red (y : Int) g) r := by
  have hTl := hT.1
  intro d
  induction d with
  | zero =>
    intro y red h1 h2 h3 hs hp
    have e0 : Box (wrap64 (2 * (y : Int)) = 2 * (y : Int)) := ⟨w64 (by omega) (by omega)⟩
    refine Ev.step (fun k => by rw [impl_FromGaps.l2]) ?_
    rw [e0.out, wadd1 (j := x) (by omega)]
    refine ev_neg (by omega) ?_
    by_cases c : red = true
    · exact ev_pos c (hs.out (.inl c))
    · refine ev_neg c (ev_pos (by omega) (hp.out ?_))
      rintro (h | ⟨z, z1, z2, _⟩)
      · exact c h
      · omega
  | succ d ih =>
    intro y red h1 h2 h3 hs hp
    have e0 : Box (wrap64 (2 * (y : Int)) = 2 * (y : Int)) := ⟨w64 (by omega) (by omega)⟩
    refine Ev.step (fun k => by rw [impl_FromGaps.l2]) ?_
    rw [e0.out, wadd1 (j := x) (by omega), wadd1 (j := y) (by omega)]
    by_cases c2 : 2 * (y : Int) ≤ (x : Int)
    · refine ev_pos c2 ?_
      by_cases c : red = true
      · exact ev_pos c (hs.out (.inl c))
      · refine ev_neg c (ev_pos (by omega) (ev_pos (by omega) ?_))
        have e1 : Box (wrap64 ((x : Int) - (y : Int)) = ((x - y : Nat) : Int)) := ⟨by rw [w64 (by omega) (by omega)]; omega⟩
        rw [rdOf_nat, e1.out, rdOf_nat]
        by_cases m : (y : Int) ∈ l
        · refine ev_pos ((hT.2 y (by omega)).2 m) (ih (y + 1) false (by omega) (by omega) (by omega) ⟨fun hh => hs.out ?_⟩ ⟨fun hh => hp.out ?_⟩)
          · rcases hh with hh | ⟨z, z1, z2, z3, z4⟩
            · simp at hh
            · exact .inr ⟨z, by omega, z2, z3, z4⟩
          · rintro (h | ⟨z, z1, z2, z3, z4⟩)
            · exact c h
            · by_cases ez : z = y
              · subst ez; exact z3 m
              · exact hh (.inr ⟨z, by omega, z2, z3, z4⟩)
        · refine ev_neg (fun hh => m ((hT.2 y (by omega)).1 hh)) (ev_pos (by omega) (ev_pos (by omega) (ih (y + 1) _ (by omega) (by omega) (by omega) ⟨fun hh => hs.out ?_⟩ ⟨fun hh => hp.out ?_⟩)))
          · rcases hh with hh | ⟨z, z1, z2, z3, z4⟩
            · refine .inr ⟨y, by omega, by omega, m, fun hm => ?_⟩
              rw [(hT.2 (x - y) (by omega)).2 hm] at hh
              simp at hh
            · exact .inr ⟨z, by omega, z2, z3, z4⟩
          · rintro (h | ⟨z, z1, z2, z3, z4⟩)
            · exact c h
            · by_cases ez : z = y
              · subst ez
                refine hh (.inl ?_)
                cases e5 : T.getD (x - z) false with
                | false => rfl
                | true => exact absurd ((hT.2 (x - z) (by omega)).1 e5) z4
              · exact hh (.inr ⟨z, by omega, z2, z3, z4⟩)
    · refine ev_neg c2 ?_
      by_cases c : red = true
      · exact ev_pos c (hs.out (.inl c))
      · refine ev_neg c (ev_pos (by omega) (hp.out ?_))
        rintro (h | ⟨z, z1, z2, _⟩)
        · exact c h
        · omega
theorem impl_FromGaps.l1_ev (l : List Int) (hl : l.length < 4611686018427387904) (hg : GapL l) (hc : Closed l) (F : Nat) (hF : F ≤ 199) (htop : ∀ x ∈ l, x ≤ (F : Int)) (T : List Bool) (hT : Marked T 401 (· ∈ l)) : ∀ (d x : Nat), 1 ≤ x → x + d = 401 → Ev (fun k => impl_FromGaps.l1 k l T (x : Int) (irrL l x)) (if B (SG (irrL l 401)) = true then (irrL l 401, true) else ([], false)) := by
  have hTl := hT.1
  intro d
  induction d with
  | zero =>
    intro x h1 h2
    obtain rfl : x = 401 := by omega
    have hlen := irrL_length l 401
    refine Ev.step (fun k => by rw [impl_FromGaps.l1]) ?_
    refine ev_neg (by omega) (Ev.bind (impl_IsSemigroup.ev _ (by omega)) ?_)
    by_cases h : SG (irrL l 401)
    · have hG := impl_Gaps.ev (irrL l 401) (by omega)
      rw [B_true h, if_pos rfl, irr_gaps hg hc htop (by omega) h] at hG
      rw [B_true h, if_pos rfl]
      refine ev_pos rfl (Ev.bind hG (Ev.bind (slices_Equal_int_int.ev l l hl) ?_))
      rw [B_true rfl]
      exact ev_pos rfl (Ev.now _)
    · rw [B_false h, if_neg (by simp)]
      exact ev_neg (by simp) (Ev.now _)
  | succ d ih =>
    intro x h1 h2
    have hlen := irrL_length l x
    have hi := ih (x + 1) (by omega) (by omega)
    refine Ev.step (fun k => by rw [impl_FromGaps.l1]) ?_
    refine ev_pos (by omega) (ev_pos (by omega) ?_)
    rw [rdOf_nat]
    refine impl_FromGaps.l2_ev l T hT x (by omega) (irrL l x) (by omega) _ x 1 (T.getD x false) (by omega) (by omega) (by omega) ⟨fun hh => ?_⟩ ⟨fun hh => ?_⟩
    · have hn : ¬ IrrN l x := fun hi => by
        rcases hh with hh | ⟨z, z1, z2, z3, z4⟩
        · exact hi.2.1 ((hT.2 x (by omega)).1 hh)
        · exact z4 (hi.2.2 z z1 z2 z3)
      rwa [irrL_skip hn] at hi
    · have hn : IrrN l x := ⟨h1, fun hm => hh (.inl ((hT.2 x (by omega)).2 hm)), fun z z1 z2 z3 => Classical.byContradiction fun z4 => hh (.inr ⟨z, z1, z2, z3, z4⟩)⟩
      rwa [irrL_put hn] at hi
theorem impl_FromGaps.l0_ev (l : List Int) (hl : l.length < 4611686018427387904) (hg : GapL l) (hc : Closed l) (F : Nat) (hF : F ≤ 199) (htop : ∀ x ∈ l, x ≤ (F : Int)) : ∀ (d j : Nat) (T : List Bool), j + d = l.length → Marked T 401 (· ∈ l.take j) → Ev (fun k => impl_FromGaps.l0 k l T l (l.length : Int) (j : Int)) (if B (SG (irrL l 401)) = true then (irrL l 401, true) else ([], false)) := by
  intro d
  induction d with
  | zero =>
    intro j T h1 h2
    rw [List.take_of_length_le (by omega)] at h2
    have e1 : irrL l 1 = [] := (irrL_skip (l := l) (j := 0) (fun hh => by have := hh.1; omega)).trans rfl
    have := impl_FromGaps.l1_ev l hl hg hc F hF htop T h2 400 1 (by omega) (by omega)
    rw [e1] at this
    refine Ev.step (fun k => by rw [impl_FromGaps.l0]) ?_
    exact ev_neg (by omega) this
  | succ d ih =>
    intro j T h1 h2
    have hj : j < l.length := by omega
    have m1 := hg.2 _ (List.getElem_mem hj)
    have hr := ih (j + 1) (T.set (l[j]).toNat true) (by omega) (h2.step (by omega) (by omega) (fun y => by rw [List.take_succ_eq_append_getElem hj, List.mem_append, List.mem_singleton]))
    refine Ev.step (fun k => by rw [impl_FromGaps.l0]) ?_
    rw [wadd1 (by omega), rd_nat, getD_get hj]
    have := h2.1
    exact ev_pos (by omega) (ev_pos (by omega) (ev_pos (by omega) (ev_pos (by omega) (ev_pos (by omega) hr))))
theorem impl_FromGaps.ev (l : List Int) (hl : l.length < 4611686018427387904) : ∃ r, Ev (fun k => impl_FromGaps.f k l) r ∧ FGV l r := by
  obtain ⟨r, hr, hG⟩ := impl_GapClash.ev l hl
  refine ⟨_, ?_, rfl⟩
  unfold impl_FromGaps.f
  refine Ev.bind hr ?_
  have out : Box (¬ (GapL l ∧ Closed l ∧ SG (irrL l 401)) → Ev (fun k => impl_FromGaps.j0 k l true) (if B (GapL l ∧ Closed l ∧ SG (irrL l 401)) = true then (irrL l 401, true) else ([], false))) := ⟨fun hh => by
    refine Ev.step (fun k => by rw [impl_FromGaps.j0]) ?_
    rw [B_false hh, if_neg (by simp)]
    exact ev_pos rfl (Ev.now _)⟩
  by_cases h0 : r.2.2 = true
  · refine ev_pos h0 (out.out (fun hh => (hG.closed hh.1).1 h0 hh.2.1))
  · refine ev_neg h0 (Ev.bind (impl_gapList.ev l hl) ?_)
    by_cases hg : GapL l
    · have hc : Closed l := Classical.byContradiction fun hh => h0 ((hG.closed hg).2 hh)
      have htop : ∀ x ∈ l, x ≤ ((199 : Nat) : Int) := fun x hx => by have := hg.2 x hx; omega
      rw [B_true hg, B_congr (q := SG (irrL l 401)) ⟨fun hh => hh.2.2, fun hh => ⟨hg, hc, hh⟩⟩]
      refine Ev.step (fun k => by rw [impl_FromGaps.j0]) ?_
      exact ev_neg (by simp) (ev_pos (by omega) (impl_FromGaps.l0_ev l hl hg hc 199 (by omega) htop l.length 0 (List.replicate 401 false) (by omega) (Marked.init (by simp))))
    · rw [B_false hg]
      exact out.out (fun hh => hg hh.1)

/-! impl_SortList -/
theorem impl_SortList.eq (l : List Int) (hl : l.length ≤ 1000000000) : ∃ r, impl_SortList.f l = some r ∧ IsSort l r ∧ r.length ≤ l.length := by
  refine ⟨_, by unfold impl_SortList.f; rw [if_pos hl], sort_compact l, ?_⟩
  have := Lib.compact_length_le (l.mergeSort fun x y => decide (x ≤ y))
  rwa [List.length_mergeSort] at this

end Go.Proofs.Ythednemidaegkaa.PFnApery
