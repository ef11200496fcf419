/- The least elements of the classes tell the greatest gap and the number of gaps: for every input. No further condition. -/
import Derived.Test.YthednemidaegkaaQFnApery0
namespace Go.Proofs.Ythednemidaegkaa.PFnApery
open Go.RowKit Go.Proofs.YthednemidaegkaaW.PrintWords Go.Proofs.YthednemidaegkaaW.PrintLast Go.Proofs.YthednemidaegkaaW.PrintMore Go.Proofs.YthednemidaegkaaM
set_option linter.unusedVariables false
set_option linter.unusedSimpArgs false
/-! impl_FromApery -/
theorem impl_FromApery.end_ev (l : List Int) (hl : 1 ≤ l.length ∧ l.length ≤ 60) (gs : List Int) (hg : ApGaps l gs) (hgl : gs.length ≤ 1000000) : ∃ r, Ev (fun k => impl_FromApery.l0 k l (l.length : Int) gs l (l.length : Int) (l.length : Int)) r ∧ FrApV l r := by
  obtain ⟨t, t1, t2, t3⟩ := impl_SortList.eq gs (by omega)
  obtain ⟨q, hq, hv⟩ := impl_FromGaps.ev t (by omega)
  obtain rfl : q = fgV t := hv
  have hfl := fgV_length t
  by_cases hb : (fgV t).2 = true
  · obtain ⟨L, hL, hA⟩ := impl_AperySet.ev (fgV t).1 (l.length : Int) (by omega)
    have hLl := hA.length
    by_cases e : L = l
    · subst e
      refine ⟨((fgV t).1, true), Ev.step (fun k => by rw [impl_FromApery.l0]) ?_, .inl ⟨_, ApOk.of_apV hl.1 hA, rfl⟩⟩
      refine ev_neg (by omega) ?_
      rw [t1]
      simp only [Option.bind_some]
      refine Ev.bind hq (ev_pos hb (Ev.bind hL (Ev.bind (slices_Equal_int_int.ev _ _ (by omega)) ?_)))
      rw [B_true rfl]
      exact ev_pos rfl (Ev.now _)
    · refine ⟨([], false), Ev.step (fun k => by rw [impl_FromApery.l0]) ?_, .inr ⟨?_, rfl⟩⟩
      · refine ev_neg (by omega) ?_
        rw [t1]
        simp only [Option.bind_some]
        refine Ev.bind hq (ev_pos hb (Ev.bind hL (Ev.bind (slices_Equal_int_int.ev _ _ (by omega)) ?_)))
        rw [B_false e]
        exact ev_neg (by simp) (Ev.now _)
      · rintro ⟨s', hs'⟩
        have e2 := hs'.gaps hg t2
        subst e2
        rw [fgV_gaps hs'.1] at hA
        exact e (hs'.apV hA)
  · refine ⟨([], false), Ev.step (fun k => by rw [impl_FromApery.l0]) ?_, .inr ⟨?_, rfl⟩⟩
    · refine ev_neg (by omega) ?_
      rw [t1]
      simp only [Option.bind_some]
      exact Ev.bind hq (ev_neg hb (Ev.now _))
    · rintro ⟨s', hs'⟩
      have e2 := hs'.gaps hg t2
      subst e2
      rw [fgV_gaps hs'.1] at hb
      simp at hb
theorem impl_FromApery.l1_ev (l : List Int) (hl : 1 ≤ l.length ∧ l.length ≤ 60) (j : Nat) (hj : j < l.length) (hw : 0 ≤ l.getD j 0 ∧ l.getD j 0 < 200 + (l.length : Int)) (P : List Int × Bool → Prop) (hn : ∀ gs, ApPart l gs ((j + 1 : Nat) : Int) ((j + 1 : Nat) : Int) → gs.length ≤ 400 * (j + 1) → ∃ r, Ev (fun k => impl_FromApery.l0 k l (l.length : Int) gs l (l.length : Int) ((j + 1 : Nat) : Int)) r ∧ P r) : ∀ (d x : Nat) (gs : List Int), l.getD j 0 ≤ (x : Int) + d → (x : Int) % (l.length : Int) = (j : Int) → (x : Int) < 400 → ApPart l gs (j : Int) (x : Int) → gs.length ≤ 400 * j + x → ∃ r, Ev (fun k => impl_FromApery.l1 k l (l.length : Int) gs (l.getD j 0) (x : Int) l (l.length : Int) (j : Int)) r ∧ P r := by
  intro d
  induction d with
  | zero =>
    intro x gs h1 h2 h3 h4 h5
    obtain ⟨r, hr, hp⟩ := hn gs (h4.next (by omega)) (by omega)
    refine ⟨r, Ev.step (fun k => by rw [impl_FromApery.l1]) ?_, hp⟩
    rw [wadd1 (j := j) (by omega)]
    exact ev_neg (by omega) hr
  | succ d ih =>
    intro x gs h1 h2 h3 h4 h5
    by_cases c : (x : Int) < l.getD j 0
    · have hput := h4.put (by omega) h2 c
      have e : (x : Int) + (l.length : Int) = ((x + l.length : Nat) : Int) := by omega
      rw [e] at hput
      obtain ⟨r, hr, hp⟩ := ih (x + l.length) (gs ++ [(x : Int)]) (by omega) (by rw [← e, Int.add_emod_right]; exact h2) (by omega) hput (by simp; omega)
      refine ⟨r, Ev.step (fun k => by rw [impl_FromApery.l1]) ?_, hp⟩
      have e2 : wrap64 ((x : Int) + (l.length : Int)) = ((x + l.length : Nat) : Int) := by rw [w64 (by omega) (by omega)]; omega
      rw [e2]
      exact ev_pos c (ev_pos (by omega) hr)
    · obtain ⟨r, hr, hp⟩ := hn gs (h4.next (by omega)) (by omega)
      refine ⟨r, Ev.step (fun k => by rw [impl_FromApery.l1]) ?_, hp⟩
      rw [wadd1 (j := j) (by omega)]
      exact ev_neg c hr
theorem impl_FromApery.bad_ev (l gs : List Int) (n q w m : Int) (j : Int) (h : ¬ ∃ s, ApOk l s) : ∃ r, Ev (fun k => impl_FromApery.j2 k l n gs q w l m j true) r ∧ FrApV l r := by
  refine ⟨([], false), Ev.step (fun k => by rw [impl_FromApery.j2]) ?_, .inr ⟨h, rfl⟩⟩
  exact ev_pos rfl (Ev.now _)
theorem impl_FromApery.l0_ev (l : List Int) (hl : 1 ≤ l.length ∧ l.length ≤ 60) (hwf : ∀ x ∈ l, x ≤ 9223372036854775807) : ∀ (d j : Nat) (gs : List Int), j + d = l.length → ApPart l gs (j : Int) (j : Int) → gs.length ≤ 400 * j → ∃ r, Ev (fun k => impl_FromApery.l0 k l (l.length : Int) gs l (l.length : Int) (j : Int)) r ∧ FrApV l r := by
  intro d
  induction d with
  | zero =>
    intro j gs h1 h2 h3
    obtain rfl : j = l.length := by omega
    exact impl_FromApery.end_ev l hl gs (h2.done hl.1) (by omega)
  | succ d ih =>
    intro j gs h1 h2 h3
    have hj : j < l.length := by omega
    by_cases c1 : l.getD j 0 < 0
    · obtain ⟨r, hr, hp⟩ := impl_FromApery.bad_ev l gs (l.length : Int) (j : Int) (l.getD j 0) (l.length : Int) (j : Int) (by
        rintro ⟨s', hs'⟩
        have := hs'.at hj
        omega)
      refine ⟨r, Ev.step (fun k => by rw [impl_FromApery.l0]) ?_, hp⟩
      rw [rd_nat]
      exact ev_pos (by omega) (ev_pos (by omega) (ev_pos (by omega) (ev_pos c1 hr)))
    · by_cases c2 : l.getD j 0 % (l.length : Int) = (j : Int)
      · have et : Int.tmod (l.getD j 0) (l.length : Int) = (j : Int) := by rw [Int.tmod_eq_emod_of_nonneg (by omega)]; exact c2
        have hbig := hwf _ (getD_mem hj)
        have ew : wrap64 (l.getD j 0 - (l.length : Int)) = l.getD j 0 - (l.length : Int) := w64 (by omega) (by omega)
        by_cases c3 : l.getD j 0 - (l.length : Int) ≥ 200
        · obtain ⟨r, hr, hp⟩ := impl_FromApery.bad_ev l gs (l.length : Int) (j : Int) (l.getD j 0) (l.length : Int) (j : Int) (by
            rintro ⟨s', hs'⟩
            have := hs'.at hj
            omega)
          refine ⟨r, Ev.step (fun k => by rw [impl_FromApery.l0]) ?_, hp⟩
          rw [rd_nat, ew, decide_eq_true c3]
          exact ev_pos (by omega) (ev_pos (by omega) (ev_pos (by omega) (ev_neg c1 (ev_neg (by omega) (ev_pos et hr)))))
        · obtain ⟨r, hr, hp⟩ := impl_FromApery.l1_ev l hl j hj ⟨by omega, by omega⟩ _ (fun gs' p1 p2 => ih (j + 1) gs' (by omega) p1 p2) (l.getD j 0).toNat j gs (by omega) (Int.emod_eq_of_lt (by omega) (by omega)) (by omega) h2 (by omega)
          refine ⟨r, Ev.step (fun k => by rw [impl_FromApery.l0]) ?_, hp⟩
          rw [rd_nat, ew, decide_eq_false c3]
          refine ev_pos (by omega) (ev_pos (by omega) (ev_pos (by omega) (ev_neg c1 (ev_neg (by omega) (ev_pos et ?_)))))
          refine Ev.step (fun k => by rw [impl_FromApery.j2]) ?_
          exact ev_neg (by simp) hr
      · have et : ¬ Int.tmod (l.getD j 0) (l.length : Int) = (j : Int) := by rw [Int.tmod_eq_emod_of_nonneg (by omega)]; exact c2
        obtain ⟨r, hr, hp⟩ := impl_FromApery.bad_ev l gs (l.length : Int) (j : Int) (l.getD j 0) (l.length : Int) (j : Int) (by
          rintro ⟨s', hs'⟩
          exact c2 (hs'.at hj).2.2)
        refine ⟨r, Ev.step (fun k => by rw [impl_FromApery.l0]) ?_, hp⟩
        rw [rd_nat]
        exact ev_pos (by omega) (ev_pos (by omega) (ev_pos (by omega) (ev_neg c1 (ev_neg (by omega) (ev_neg et hr)))))
theorem impl_FromApery.ev (l : List Int) (hwf : ∀ x ∈ l, x ≤ 9223372036854775807) : ∃ r, Ev (fun k => impl_FromApery.f k l) r ∧ FrApV l r := by
  unfold impl_FromApery.f
  rw [impl_within.eq]
  simp only [Option.bind_some]
  have bad : Box ((¬ ∃ s, ApOk l s) → ∃ r, Ev (fun k => impl_FromApery.j0 k l (l.length : Int) true) r ∧ FrApV l r) := ⟨fun h => by
    refine ⟨([], false), Ev.step (fun k => by rw [impl_FromApery.j0]) ?_, .inr ⟨h, rfl⟩⟩
    exact ev_pos rfl (Ev.now _)⟩
  by_cases c : 1 ≤ (l.length : Int) ∧ (l.length : Int) ≤ 60
  · have e0 : rd l 0 = l.getD 0 0 := rd_nat l 0
    rw [e0]
    by_cases c0 : l.getD 0 0 = 0
    · obtain ⟨r, hr, hp⟩ := impl_FromApery.l0_ev l (by omega) hwf l.length 0 [] (by omega) (ApPart.start l) (by simp)
      refine ⟨r, ev_pos (by simpa using c) (ev_pos (by omega) ?_), hp⟩
      rw [c0, bne_self_eq_false]
      refine Ev.step (fun k => by rw [impl_FromApery.j0]) ?_
      exact ev_neg (by simp) hr
    · obtain ⟨r, hr, hp⟩ := bad.out (by
        rintro ⟨s', hs'⟩
        exact c0 hs'.zero)
      refine ⟨r, ev_pos (by simpa using c) (ev_pos (by omega) ?_), hp⟩
      rw [show (l.getD 0 0 != 0) = true by rw [bne_iff_ne]; exact c0]
      exact hr
  · obtain ⟨r, hr, hp⟩ := bad.out (by
      rintro ⟨s', hs'⟩
      have := hs'.2.1
      omega)
    exact ⟨r, ev_neg (by simpa using c) hr, hp⟩

/-! spec_l6Minimal -/
theorem spec_l6Minimal.l0_ev (s : List Int) (hs : ∀ x ∈ s, 1 ≤ x ∧ x ≤ 1000000) (hsl : s.length ≤ 1000000000) : ∀ (d j : Nat), j + d = s.length → Ev (fun k => spec_l6Minimal.l0 k (minK s j) s (j : Int)) (minV s) := by
  intro d
  induction d with
  | zero =>
    intro j h1
    refine Ev.step (fun k => by rw [spec_l6Minimal.l0]) ?_
    unfold minV
    rw [show j = s.length by omega]
    exact ev_neg (by omega) (Ev.now _)
  | succ d ih =>
    intro j h1
    have hj : j < s.length := by omega
    have hlen := minK_length s j
    have hx := hs _ (List.getElem_mem hj)
    have := ih (j + 1) (by omega)
    rw [minK] at this
    refine Ev.step (fun k => by rw [spec_l6Minimal.l0]) ?_
    rw [wadd1 (by omega), rd_nat, Int.toNat_natCast]
    refine ev_pos (by omega) ?_
    by_cases e : j = 0
    · refine ev_pos (by omega) (ev_pos (by omega) (ev_pos (by omega) ?_))
      rw [B_true (.inl e), if_pos rfl] at this
      exact this
    · refine ev_neg (by omega) (ev_pos (by omega) (ev_pos (by omega) ?_))
      rw [getD_get hj] at this ⊢
      obtain ⟨v, hv⟩ : ∃ v : Nat, (v : Int) = s[j] := ⟨s[j].toNat, by omega⟩
      obtain ⟨T, ht, hT⟩ := spec_l3Table.ev (s.take j) (fun x hx' => (hs x (List.take_subset _ _ hx')).1) (fun x hx' => by have := hs x (List.take_subset _ _ hx'); omega) (by simp; omega) v (by omega)
      rw [← hv]
      refine Ev.bind ht ?_
      have hTl := hT.1
      refine ev_pos (by omega) (ev_pos (by omega) ?_)
      rw [rdOf_nat, hT.at v (by omega)]
      rw [← hv] at this
      by_cases c : Gen (s.take j) (v : Int)
      · rw [B_true c]
        rw [B_false (by rintro (h | h); exact e h; exact h c), if_neg (by simp), List.append_nil] at this
        exact ev_pos rfl this
      · rw [B_false c]
        rw [B_true (.inr c), if_pos rfl] at this
        exact ev_neg (by simp) (ev_pos (by omega) this)
theorem spec_l6Minimal.ev (l : List Int) (hs : ∀ x ∈ l, 1 ≤ x ∧ x ≤ 1000000) (hsl : l.length ≤ 1000000000) : ∃ s, IsSort l s ∧ s.length ≤ l.length ∧ Ev (fun k => spec_l6Minimal.f k l) (minV s) := by
  obtain ⟨s, h1, h2, h3⟩ := spec_SortList.ev l hsl
  refine ⟨s, h2, h3, ?_⟩
  unfold spec_l6Minimal.f
  exact Ev.bind h1 (spec_l6Minimal.l0_ev s (fun x hx => hs x ((h2.2 x).1 hx)) (by omega) s.length 0 (by omega))

/-! spec_FromApery -/
theorem spec_FromApery.l0_ev (l : List Int) (hl : 1 ≤ l.length ∧ l.length ≤ 60) : ∀ (d j : Nat), 1 ≤ j → j + d = l.length → (∀ i, 1 ≤ i → i < j → 1 ≤ l.getD i 0 ∧ l.getD i 0 ≤ 260) → ∃ r, Ev (fun k => spec_FromApery.l0 k l (l.length : Int) ((l.length : Int) :: (l.drop 1).take (j - 1)) (j : Int)) r ∧ FrApV l r := by
  intro d
  induction d with
  | zero =>
    intro j h0 h1 h2
    obtain rfl : j = l.length := by omega
    rw [List.take_of_length_le (by simp)]
    have hp : ∀ x ∈ (l.length : Int) :: l.drop 1, 1 ≤ x ∧ x ≤ 1000000 := fun x hx => by
      rcases List.mem_cons.1 hx with rfl | hx
      · omega
      · obtain ⟨r, r1, r2, rfl⟩ := mem_drop1 hx
        have := h2 r r1 r2
        omega
    obtain ⟨s, s1, s2, s3⟩ := spec_l6Minimal.ev _ hp (by simp; omega)
    have hm : (minV s).length ≤ 1048576 := by
      have := minK_length s s.length
      have e : (minV s).length ≤ s.length := this
      simp at s2
      omega
    obtain ⟨L, hL, hA⟩ := spec_AperySet.ev (minV s) (l.length : Int) hm
    have hLl := hA.length
    by_cases e : L = l
    · subst e
      refine ⟨(minV s, true), Ev.step (fun k => by rw [spec_FromApery.l0]) ?_, .inl ⟨minV s, ApOk.of_apV hl.1 hA, rfl⟩⟩
      refine ev_neg (by omega) (Ev.bind s3 (Ev.bind hL (Ev.bind (spec_l2Same.ev _ _ (by omega)) ?_)))
      rw [B_true rfl]
      exact ev_pos rfl (Ev.now _)
    · refine ⟨([], false), Ev.step (fun k => by rw [spec_FromApery.l0]) ?_, .inr ⟨?_, rfl⟩⟩
      · refine ev_neg (by omega) (Ev.bind s3 (Ev.bind hL (Ev.bind (spec_l2Same.ev _ _ (by omega)) ?_)))
        rw [B_false e]
        exact ev_neg (by simp) (Ev.now _)
      · rintro ⟨s', hs'⟩
        rw [hs'.minimal s1] at hA
        exact e (hs'.apV hA)
  | succ d ih =>
    intro j h0 h1 h2
    have hj : j < l.length := by omega
    by_cases c : 1 ≤ l.getD j 0 ∧ l.getD j 0 ≤ 260
    · obtain ⟨r, hr, hp⟩ := ih (j + 1) (by omega) (by omega) (fun i i1 i2 => by
        by_cases e : i = j
        · rw [e]; exact c
        · exact h2 i i1 (by omega))
      refine ⟨r, Ev.step (fun k => by rw [spec_FromApery.l0]) ?_, hp⟩
      rw [wadd1 (j := j) (by omega), rd_nat, spec_l1In.eq]
      refine ev_pos (by omega) (ev_pos (by omega) (ev_pos (by omega) ?_))
      simp only [Option.bind_some]
      refine ev_pos (by simpa using c) (ev_pos (by simp; omega) ?_)
      have e : ((l.length : Int) :: (l.drop 1).take (j - 1)) ++ [l.getD j 0] = (l.length : Int) :: (l.drop 1).take (j + 1 - 1) := by
        rw [List.cons_append]
        congr 1
        have := List.take_succ_eq_append_getElem (l := l.drop 1) (i := j - 1) (by simp; omega)
        rw [show j - 1 + 1 = j + 1 - 1 by omega] at this
        rw [this, List.getElem_drop, getD_get hj]
        congr 3; omega
      rw [e]
      exact hr
    · refine ⟨([], false), Ev.step (fun k => by rw [spec_FromApery.l0]) ?_, .inr ⟨?_, rfl⟩⟩
      · rw [rd_nat, spec_l1In.eq]
        refine ev_pos (by omega) (ev_pos (by omega) (ev_pos (by omega) ?_))
        simp only [Option.bind_some]
        exact ev_neg (by simpa using c) (Ev.now _)
      · rintro ⟨s', hs'⟩
        have a := hs'.at hj
        have b := hs'.pos hj h0
        exact c ⟨b, by omega⟩
theorem spec_FromApery.ev (l : List Int) : ∃ r, Ev (fun k => spec_FromApery.f k l) r ∧ FrApV l r := by
  unfold spec_FromApery.f
  rw [spec_l1In.eq]
  simp only [Option.bind_some]
  by_cases c : 1 ≤ (l.length : Int) ∧ (l.length : Int) ≤ 60
  · obtain ⟨r, hr, hp⟩ := spec_FromApery.l0_ev l (by omega) (l.length - 1) 1 (by omega) (by omega) (fun i i1 i2 => by omega)
    exact ⟨r, ev_pos (by simpa using c) hr, hp⟩
  · refine ⟨([], false), ev_neg (by simpa using c) (Ev.now _), .inr ⟨?_, rfl⟩⟩
    rintro ⟨s', hs'⟩
    have := hs'.2.1
    omega

/-! laws_sameInts -/
theorem laws_sameInts.l0_ev (x y : List Int) (hl : x.length = y.length) (hx : x.length < 4611686018427387904) : ∀ (d j : Nat), j + d = x.length → Ev (fun k => laws_sameInts.l0 k x y (j : Int)) (B (x.drop j = y.drop j)) := by
  intro d
  induction d with
  | zero =>
    intro j h1
    refine Ev.step (fun k => by rw [laws_sameInts.l0]) ?_
    rw [B_true (by rw [List.drop_of_length_le (by omega), List.drop_of_length_le (by omega)])]
    exact ev_neg (by omega) (Ev.now _)
  | succ d ih =>
    intro j h1
    have hj : j < x.length := by omega
    have hj' : j < y.length := by omega
    refine Ev.step (fun k => by rw [laws_sameInts.l0]) ?_
    refine ev_pos (by omega) (ev_pos (by omega) (ev_pos (by omega) ?_))
    rw [wadd1 (by omega), rd_nat, rd_nat, getD_get hj, getD_get hj', List.drop_eq_getElem_cons hj, List.drop_eq_getElem_cons hj']
    by_cases e : x[j] = y[j]
    · refine ev_pos e ?_
      have := ih (j + 1) (by omega)
      rw [B_congr (q := x.drop (j + 1) = y.drop (j + 1)) (by simp only [e, List.cons.injEq, true_and])]
      exact this
    · refine ev_neg e ?_
      rw [B_false (fun h => e (List.cons.inj h).1)]
      exact Ev.now _
theorem laws_sameInts.ev (x y : List Int) (hx : x.length < 4611686018427387904) : Ev (fun k => laws_sameInts.f k x y) (B (x = y)) := by
  unfold laws_sameInts.f
  by_cases e : x.length = y.length
  · refine ev_pos (by omega) ?_
    exact laws_sameInts.l0_ev x y e hx x.length 0 (by omega)
  · refine ev_neg (by omega) ?_
    rw [B_false (fun h => e (by rw [h]))]
    exact Ev.now _

/-! spec_EqualSemigroup -/
theorem spec_EqualSemigroup.ev (x y : List Int) (hx : x.length < 4611686018427387904) : Ev (fun k => spec_EqualSemigroup.f k x y) (B (x = y)) := by
  unfold spec_EqualSemigroup.f
  exact Ev.bind (spec_l2Same.ev x y hx) (Ev.now _)

/-! slices_Max_int_int -/


/-! impl_FrobeniusByApery -/
theorem maxOf_pos {l : List Int} (h : ∀ x ∈ l, 0 ≤ x) : Lib.maxOf l = l.foldl max 0 := by
  unfold Lib.maxOf
  cases l with
  | nil => rfl
  | cons x l =>
    have := h x (List.mem_cons_self ..)
    rw [List.headD_cons, List.foldl_cons, List.foldl_cons, show max x x = max 0 x by omega]
theorem impl_FrobeniusByApery.ev (g : List Int) (n : Int) (hgl : g.length ≤ 1048576) : ∃ v, Ev (fun k => impl_FrobeniusByApery.f k g n) v ∧ FAV g n v := by
  obtain ⟨L, hL, hA⟩ := impl_AperySet.ev g n hgl
  refine ⟨if L.length = 0 then -1 else wrap64 (L.foldl max 0 - n), ?_, L, hA, rfl⟩
  unfold impl_FrobeniusByApery.f
  refine Ev.bind hL ?_
  rcases hA with ⟨_, rfl⟩ | ⟨hn, hA⟩
  · exact ev_pos rfl (Ev.now _)
  · have hl' := hA.1
    have hne : ¬ ((L.length : Int) = 0) := by omega
    have hne2 : ¬ (L.length = 0) := by omega
    have e : slices_Max_int_int.f L = some (L.foldl max 0) := by
      unfold slices_Max_int_int.f
      rw [if_pos ⟨by omega, by omega⟩, maxOf_pos (fun x hx => (hA.range hn.1 (by omega) (by omega) hx).1)]
    simp only [e, if_neg hne, if_neg hne2, Option.bind_some]
    exact Ev.now _

/-! impl_GenusByApery -/
theorem impl_GenusByApery.l0_ev (n : Int) (h1 : 1 ≤ n) (h2 : n ≤ 60) (L : List Int) (hx : ∀ x ∈ L, 0 ≤ x ∧ x < 260) (hl : L.length ≤ 60) : ∀ (d j : Nat) (acc : Int), j + d = L.length → 0 ≤ acc → acc ≤ 300 * (j : Int) → Ev (fun k => impl_GenusByApery.l0 k n acc L (L.length : Int) (j : Int)) (acc + quotsV n (L.drop j)) := by
  intro d
  induction d with
  | zero =>
    intro j acc g1 g2 g3
    refine Ev.step (fun k => by rw [impl_GenusByApery.l0]) ?_
    rw [List.drop_eq_nil_of_le (by omega), quotsV, Int.add_zero]
    exact ev_neg (by omega) (Ev.now _)
  | succ d ih =>
    intro j acc g1 g2 g3
    have hj : j < L.length := by omega
    have b := hx L[j] (List.getElem_mem hj)
    have b1 : 0 ≤ L[j] / n := Int.ediv_nonneg b.1 (by omega)
    have b2 : L[j] / n ≤ L[j] := Int.ediv_le_self _ b.1
    have e0 : rd L (j : Int) = L[j] := by rw [rd_nat, getD_get hj]
    have e1 : wrap64 (Int.tdiv (rd L (j : Int)) n) = L[j] / n := by rw [e0, Int.tdiv_eq_ediv_of_nonneg b.1, w64 (by omega) (by omega)]
    have e : Box (wrap64 (acc + wrap64 (Int.tdiv (rd L (j : Int)) n)) = acc + L[j] / n) := ⟨by rw [e1, w64 (by omega) (by omega)]⟩
    refine Ev.step (fun k => by rw [impl_GenusByApery.l0]) ?_
    rw [e.out, wadd1 (by omega), List.drop_eq_getElem_cons hj, quotsV, ← Int.add_assoc]
    have := ih (j + 1) (acc + L[j] / n) (by omega) (by omega) (by omega)
    clear e e1 e0 b1 b2 b
    exact ev_pos (by omega) (ev_pos (by omega) (ev_pos (by omega) (ev_neg (by omega) (this))))
theorem impl_GenusByApery.ev (g : List Int) (n : Int) (hgl : g.length ≤ 1048576) : ∃ v, Ev (fun k => impl_GenusByApery.f k g n) v ∧ QV g n v := by
  obtain ⟨L, hL, hA⟩ := impl_AperySet.ev g n hgl
  refine ⟨if L.length = 0 then -1 else quotsV n L, ?_, L, hA, rfl⟩
  unfold impl_GenusByApery.f
  refine Ev.bind hL ?_
  rcases hA with ⟨_, rfl⟩ | ⟨hn, hA⟩
  · exact ev_pos rfl (Ev.now _)
  · have hl' := hA.1
    have hl : L.length ≤ 60 := by omega
    have hx : ∀ x ∈ L, 0 ≤ x ∧ x < 260 := fun x hx => hA.range hn.1 (by omega) (by omega) hx
    rw [if_neg (by omega)]
    have := impl_GenusByApery.l0_ev n hn.2.2.1 hn.2.2.2 L hx hl L.length 0 0 (by omega) (by omega) (by omega)
    rw [List.drop_zero, Int.zero_add] at this
    exact ev_neg (by omega) this

/-! spec_GenusOf -/
theorem spec_GenusOf.ev (g : List Int) (hgl : g.length ≤ 1048576) : Ev (fun k => spec_GenusOf.f k g) (if B (SG g) = true then ((gapsV g).length : Int) else -1) := by
  unfold spec_GenusOf.f
  refine Ev.bind (spec_IsSemigroup.ev g hgl) ?_
  by_cases h : SG g
  · rw [B_true h, if_pos rfl]
    exact ev_pos rfl (Ev.bind (spec_l4Gaps.ev g h) (Ev.now _))
  · rw [B_false h, if_neg (by simp)]
    exact ev_neg (by simp) (Ev.now _)

end Go.Proofs.Ythednemidaegkaa.PFnApery
namespace Go.Proofs.Ythednemidaegkaa.Pure
open Go.RowKit Go.Proofs.YthednemidaegkaaW.PrintWords Go.Proofs.YthednemidaegkaaW.PrintLast Go.Proofs.YthednemidaegkaaW.PrintMore Go.Proofs.YthednemidaegkaaM
set_option linter.unusedVariables false
set_option linter.unusedSimpArgs false
open Go.Proofs.Ythednemidaegkaa.PFnApery
theorem FnApery.end_ev (s : List Int) (n : Int) (L : List Int) (hs : s.length ≤ 100) (hA : ApV s n L) : Ev (fun k => if (L.length : Int) = 0 then ((impl_FrobeniusByApery.f k s n).bind fun t882 => (if t882 = (-1) then ((impl_GenusByApery.f k s n).bind fun t883 => (some (t883 == (-1)))) else (some false))) else ((impl_FromApery.f k L).bind fun bt884 => ((impl_FrobeniusByApery.f k s n).bind fun t889 => ((spec_FrobeniusOf.f k s).bind fun t890 => (if t889 = t890 then ((impl_GenusByApery.f k s n).bind fun t891 => ((spec_GenusOf.f k s).bind fun t892 => (if t891 = t892 then (if bt884.2 = true then ((spec_EqualSemigroup.f k bt884.1 s).bind fun t893 => (some t893)) else (some false)) else (some false)))) else (some false)))))) true := by
  obtain ⟨v, hv, L1, a1, rfl⟩ := impl_FrobeniusByApery.ev s n (by omega)
  obtain ⟨q, hq, L2, a2, rfl⟩ := impl_GenusByApery.ev s n (by omega)
  obtain rfl := a1.unique hA
  obtain rfl := a2.unique a1
  by_cases c : L2.length = 0
  · rw [if_pos c] at hv hq
    exact ev_pos (by omega) (Ev.bind hv (ev_pos (by trivial) (Ev.bind hq (Ev.now _))))
  · rw [if_neg c] at hv hq
    have hn : (L2.length : Int) = n := by
      rcases hA with ⟨_, rfl⟩ | ⟨h1, h2⟩
      · simp at c
      · have := h2.1; omega
    have ok : ApOk L2 s := ApOk.of_apV (by omega) (by rw [hn]; exact hA)
    have hx : ∀ x ∈ L2, x ≤ 9223372036854775807 := fun x hx => by
      have := ap_small ok.1 hA x hx; omega
    obtain ⟨r, hr, hr2⟩ := impl_FromApery.ev L2 hx
    obtain rfl : r = (s, true) := hr2.unique (.inl ⟨s, ok, rfl⟩)
    have hm := ok.max
    have hsum := ok.sum
    have hf := frobV_range s
    rw [hn] at hm hsum
    rw [hm, w64 (by omega) (by omega)] at hv
    rw [hsum] at hq
    have hG := spec_GenusOf.ev s (by omega)
    rw [if_pos (B_true ok.1)] at hG
    refine ev_neg (by omega) (Ev.bind hr (Ev.bind hv (Ev.bind (spec_FrobeniusOf.ev s (by omega)) (ev_pos (by trivial) (Ev.bind hq (Ev.bind hG (ev_pos (by trivial) (ev_pos (by trivial) (Ev.bind (spec_EqualSemigroup.ev _ _ (by simp only []; omega)) ?_)))))))))
    rw [B_true rfl]
    exact Ev.now _
theorem FnApery.l0_ev (s : List Int) (n : Int) (L : List Int) (hs : s.length ≤ 100) (hA : ApV s n L) : ∀ (d j : Nat), j + d = L.length → Ev (fun k => laws_FnApery.l0 k n L (j : Int) s) true := by
  have hLl := hA.length
  intro d
  induction d with
  | zero =>
    intro j h1
    refine Ev.step (fun k => by rw [laws_FnApery.l0]) ?_
    exact ev_neg (by omega) (FnApery.end_ev s n L hs hA)
  | succ d ih =>
    intro j h1
    have hn := ih (j + 1) (by omega)
    have hA' := hA
    rcases hA' with ⟨_, rfl⟩ | ⟨c, hl, hr⟩
    · simp at h1
    · have hjn : j < n.toNat := by omega
      have hL := hr j hjn
      have hb := hL.bound c.1 (by omega) hjn
      have en : ((n.toNat : Nat) : Int) = n := by omega
      rw [en] at hL hb
      have hc1 : contV s (L.getD j 0) = true := B_true ⟨c.1, hb.1, hL.1⟩
      have hm : Int.tmod (L.getD j 0) n = (j : Int) := by rw [Int.tmod_eq_emod_of_nonneg hb.1]; exact hL.2.1
      refine Ev.step (fun k => by rw [laws_FnApery.l0]) ?_
      rw [wadd1 (j := j) (by omega), rd_nat]
      refine ev_pos (by omega) (ev_pos (by omega) (ev_neg (by omega) (ev_pos hm (Ev.bind (spec_Contains.ev s _ (by omega)) (ev_pos hc1 ?_)))))
      by_cases g : L.getD j 0 ≥ n
      · have hc2 : contV s (wrap64 (L.getD j 0 - n)) = false := by
          rw [w64 (by omega) (by omega)]
          refine B_false (fun hh => ?_)
          have h2 := hL.2.2 (L.getD j 0 - n) hh.2.2 (by rw [Int.sub_emod_right]; exact hL.2.1)
          omega
        refine ev_pos g (Ev.bind (spec_Contains.ev s _ (by omega)) (ev_neg (by rw [hc2]; simp) hn))
      · exact ev_neg g hn
theorem FnApery : laws_FnApery.Pure := by
  intro l0 hl h1 hw
  have hl' : l0.length < 4611686018427387904 := by omega
  refine ev_rounds ?_
  unfold laws_FnApery.f laws_big.f
  simp only [Option.bind_some]
  by_cases h : (l0.length : Int) > 1048576
  · exact ev_pos (decide_eq_true h) (Ev.now _)
  · refine ev_neg (by simpa using h) ?_
    obtain ⟨s, n, hd, hz⟩ := spec_DrawAperySet.ev l0 hl'
    obtain ⟨L, hL, hA⟩ := impl_AperySet.ev s n (by omega)
    obtain ⟨L', hL', hA'⟩ := spec_AperySet.ev s n (by omega)
    obtain rfl := hA.unique hA'
    obtain ⟨p, hp, hpl, hpx⟩ := spec_DrawFromApery.ev l0 hl'
    obtain ⟨r, hr, hr2⟩ := impl_FromApery.ev p hpx
    obtain ⟨r', hr', hr2'⟩ := spec_FromApery.ev p
    obtain rfl := hr2.unique hr2'
    have hrl := hr2.length
    have hLl := hA.length
    have fin : Ev (fun k => laws_FnApery.j0 k n L false s) true := by
      refine Ev.step (fun k => by rw [laws_FnApery.j0]) ?_
      exact ev_neg (by simp) (FnApery.l0_ev s n L hz hA L.length 0 (by omega))
    refine Ev.bind hd (Ev.bind hL (Ev.bind hp (Ev.bind hr (Ev.bind hr' (Ev.bind hL' (Ev.bind (laws_sameInts.ev L L (by omega)) (ev_pos (B_true rfl) (ev_neg (by simp) (Ev.bind (spec_EqualSemigroup.ev _ _ (by omega)) (ev_pos (B_true rfl) ?_))))))))))
    by_cases k : r.2 = true
    · obtain ⟨P, hP, hP2⟩ := impl_AperySet.ev r.1 (p.length : Int) (by omega)
      obtain rfl := (hr2.ok k).apV hP2
      refine ev_pos k (Ev.bind hP (Ev.bind (laws_sameInts.ev P P (by omega)) ?_))
      rw [B_true rfl]
      exact fin
    · exact ev_neg k fin

end Go.Proofs.Ythednemidaegkaa.Pure
