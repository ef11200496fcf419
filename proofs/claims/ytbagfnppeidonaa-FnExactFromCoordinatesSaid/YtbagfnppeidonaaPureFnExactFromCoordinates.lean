/- The program's FromCoordinates answers what the reference's answers, for every list of numbers, in memory of its own (lists of more than 1048576 numbers are let pass by the law itself). No further condition. -/
import Derived.Test.YtbagfnppeidonaaQFnExactFromCoordinates0
namespace Go.Proofs.Ytbagfnppeidonaa.PFnExactFromCoordinates
open Go.RowKit Go.Proofs.YtbagfnppeidonaaW.PrintWords Go.Proofs.YtbagfnppeidonaaW.PrintLast Go.Proofs.YtbagfnppeidonaaW.PrintMore Go.Proofs.YtbagfnppeidonaaM
set_option linter.unusedVariables false
set_option linter.unusedSimpArgs false
/-! impl_FromApery -/
theorem impl_FromApery.end_ev (l : List Int) (hl : 1 ≤ l.length ∧ l.length ≤ 60) (gs : List Int) (hg : ApGaps l gs) (hgl : gs.length ≤ 1000000) : ∃ r, Ev (fun k => impl_FromApery.l0 k l (l.length : Int) gs l (l.length : Int) (l.length : Int)) r ∧ FrApV l r := by
  obtain ⟨t, t1, t2, t3⟩ := impl_SortList.eq gs (by omega)
  obtain ⟨q, hq, hv⟩ := impl_FromGaps.ev t (by omega)
  obtain rfl : q = fgV t := hv
  have hfl := fgV_length t
  by_cases hb : (fgV t).2 = true
  · obtain ⟨L, hL, hA⟩ := impl_AperySet.ev (fgV t).1 (l.length : Int) (by omega)
    have hLl := hA.length
    by_cases e : L = l
    · subst e
      refine ⟨((fgV t).1, true), Ev.step (fun k => by rw [impl_FromApery.l0]) ?_, .inl ⟨_, ApOk.of_apV hl.1 hA, rfl⟩⟩
      refine ev_neg (by omega) ?_
      rw [t1]
      simp only [Option.bind_some]
      refine Ev.bind hq (ev_pos hb (Ev.bind hL (Ev.bind (slices_Equal_int_int.ev _ _ (by omega)) ?_)))
      rw [B_true rfl]
      exact ev_pos rfl (Ev.now _)
    · refine ⟨([], false), Ev.step (fun k => by rw [impl_FromApery.l0]) ?_, .inr ⟨?_, rfl⟩⟩
      · refine ev_neg (by omega) ?_
        rw [t1]
        simp only [Option.bind_some]
        refine Ev.bind hq (ev_pos hb (Ev.bind hL (Ev.bind (slices_Equal_int_int.ev _ _ (by omega)) ?_)))
        rw [B_false e]
        exact ev_neg (by simp) (Ev.now _)
      · rintro ⟨s', hs'⟩
        have e2 := hs'.gaps hg t2
        subst e2
        rw [fgV_gaps hs'.1] at hA
        exact e (hs'.apV hA)
  · refine ⟨([], false), Ev.step (fun k => by rw [impl_FromApery.l0]) ?_, .inr ⟨?_, rfl⟩⟩
    · refine ev_neg (by omega) ?_
      rw [t1]
      simp only [Option.bind_some]
      exact Ev.bind hq (ev_neg hb (Ev.now _))
    · rintro ⟨s', hs'⟩
      have e2 := hs'.gaps hg t2
      subst e2
      rw [fgV_gaps hs'.1] at hb
      simp at hb
theorem impl_FromApery.l1_ev (l : List Int) (hl : 1 ≤ l.length ∧ l.length ≤ 60) (j : Nat) (hj : j < l.length) (hw : 0 ≤ l.getD j 0 ∧ l.getD j 0 < 200 + (l.length : Int)) (P : List Int × Bool → Prop) (hn : ∀ gs, ApPart l gs ((j + 1 : Nat) : Int) ((j + 1 : Nat) : Int) → gs.length ≤ 400 * (j + 1) → ∃ r, Ev (fun k => impl_FromApery.l0 k l (l.length : Int) gs l (l.length : Int) ((j + 1 : Nat) : Int)) r ∧ P r) : ∀ (d x : Nat) (gs : List Int), l.getD j 0 ≤ (x : Int) + d → (x : Int) % (l.length : Int) = (j : Int) → (x : Int) < 400 → ApPart l gs (j : Int) (x : Int) → gs.length ≤ 400 * j + x → ∃ r, Ev (fun k => impl_FromApery.l1 k l (l.length : Int) gs (l.getD j 0) (x : Int) l (l.length : Int) (j : Int)) r ∧ P r := by
  intro d
  induction d with
  | zero =>
    intro x gs h1 h2 h3 h4 h5
    obtain ⟨r, hr, hp⟩ := hn gs (h4.next (by omega)) (by omega)
    refine ⟨r, Ev.step (fun k => by rw [impl_FromApery.l1]) ?_, hp⟩
    rw [wadd1 (j := j) (by omega)]
    exact ev_neg (by omega) hr
  | succ d ih =>
    intro x gs h1 h2 h3 h4 h5
    by_cases c : (x : Int) < l.getD j 0
    · have hput := h4.put (by omega) h2 c
      have e : (x : Int) + (l.length : Int) = ((x + l.length : Nat) : Int) := by omega
      rw [e] at hput
      obtain ⟨r, hr, hp⟩ := ih (x + l.length) (gs ++ [(x : Int)]) (by omega) (by rw [← e, Int.add_emod_right]; exact h2) (by omega) hput (by simp; omega)
      refine ⟨r, Ev.step (fun k => by rw [impl_FromApery.l1]) ?_, hp⟩
      have e2 : wrap64 ((x : Int) + (l.length : Int)) = ((x + l.length : Nat) : Int) := by rw [w64 (by omega) (by omega)]; omega
      rw [e2]
      exact ev_pos c (ev_pos (by omega) hr)
    · obtain ⟨r, hr, hp⟩ := hn gs (h4.next (by omega)) (by omega)
      refine ⟨r, Ev.step (fun k => by rw [impl_FromApery.l1]) ?_, hp⟩
      rw [wadd1 (j := j) (by omega)]
      exact ev_neg c hr
theorem impl_FromApery.bad_ev (l gs : List Int) (n q w m : Int) (j : Int) (h : ¬ ∃ s, ApOk l s) : ∃ r, Ev (fun k => impl_FromApery.j2 k l n gs q w l m j true) r ∧ FrApV l r := by
  refine ⟨([], false), Ev.step (fun k => by rw [impl_FromApery.j2]) ?_, .inr ⟨h, rfl⟩⟩
  exact ev_pos rfl (Ev.now _)
theorem impl_FromApery.l0_ev (l : List Int) (hl : 1 ≤ l.length ∧ l.length ≤ 60) (hwf : ∀ x ∈ l, x ≤ 9223372036854775807) : ∀ (d j : Nat) (gs : List Int), j + d = l.length → ApPart l gs (j : Int) (j : Int) → gs.length ≤ 400 * j → ∃ r, Ev (fun k => impl_FromApery.l0 k l (l.length : Int) gs l (l.length : Int) (j : Int)) r ∧ FrApV l r := by
  intro d
  induction d with
  | zero =>
    intro j gs h1 h2 h3
    obtain rfl : j = l.length := by omega
    exact impl_FromApery.end_ev l hl gs (h2.done hl.1) (by omega)
  | succ d ih =>
    intro j gs h1 h2 h3
    have hj : j < l.length := by omega
    by_cases c1 : l.getD j 0 < 0
    · obtain ⟨r, hr, hp⟩ := impl_FromApery.bad_ev l gs (l.length : Int) (j : Int) (l.getD j 0) (l.length : Int) (j : Int) (by
        rintro ⟨s', hs'⟩
        have := hs'.at hj
        omega)
      refine ⟨r, Ev.step (fun k => by rw [impl_FromApery.l0]) ?_, hp⟩
      rw [rd_nat]
      exact ev_pos (by omega) (ev_pos (by omega) (ev_pos (by omega) (ev_pos c1 hr)))
    · by_cases c2 : l.getD j 0 % (l.length : Int) = (j : Int)
      · have et : Int.tmod (l.getD j 0) (l.length : Int) = (j : Int) := by rw [Int.tmod_eq_emod_of_nonneg (by omega)]; exact c2
        have hbig := hwf _ (getD_mem hj)
        have ew : wrap64 (l.getD j 0 - (l.length : Int)) = l.getD j 0 - (l.length : Int) := w64 (by omega) (by omega)
        by_cases c3 : l.getD j 0 - (l.length : Int) ≥ 200
        · obtain ⟨r, hr, hp⟩ := impl_FromApery.bad_ev l gs (l.length : Int) (j : Int) (l.getD j 0) (l.length : Int) (j : Int) (by
            rintro ⟨s', hs'⟩
            have := hs'.at hj
            omega)
          refine ⟨r, Ev.step (fun k => by rw [impl_FromApery.l0]) ?_, hp⟩
          rw [rd_nat, ew, decide_eq_true c3]
          exact ev_pos (by omega) (ev_pos (by omega) (ev_pos (by omega) (ev_neg c1 (ev_neg (by omega) (ev_pos et hr)))))
        · obtain ⟨r, hr, hp⟩ := impl_FromApery.l1_ev l hl j hj ⟨by omega, by omega⟩ _ (fun gs' p1 p2 => ih (j + 1) gs' (by omega) p1 p2) (l.getD j 0).toNat j gs (by omega) (Int.emod_eq_of_lt (by omega) (by omega)) (by omega) h2 (by omega)
          refine ⟨r, Ev.step (fun k => by rw [impl_FromApery.l0]) ?_, hp⟩
          rw [rd_nat, ew, decide_eq_false c3]
          refine ev_pos (by omega) (ev_pos (by omega) (ev_pos (by omega) (ev_neg c1 (ev_neg (by omega) (ev_pos et ?_)))))
          refine Ev.step (fun k => by rw [impl_FromApery.j2]) ?_
          exact ev_neg (by simp) hr
      · have et : ¬ Int.tmod (l.getD j 0) (l.length : Int) = (j : Int) := by rw [Int.tmod_eq_emod_of_nonneg (by omega)]; exact c2
        obtain ⟨r, hr, hp⟩ := impl_FromApery.bad_ev l gs (l.length : Int) (j : Int) (l.getD j 0) (l.length : Int) (j : Int) (by
          rintro ⟨s', hs'⟩
          exact c2 (hs'.at hj).2.2)
        refine ⟨r, Ev.step (fun k => by rw [impl_FromApery.l0]) ?_, hp⟩
        rw [rd_nat]
        exact ev_pos (by omega) (ev_pos (by omega) (ev_pos (by omega) (ev_neg c1 (ev_neg (by omega) (ev_neg et hr)))))
theorem impl_FromApery.ev (l : List Int) (hwf : ∀ x ∈ l, x ≤ 9223372036854775807) : ∃ r, Ev (fun k => impl_FromApery.f k l) r ∧ FrApV l r := by
  unfold impl_FromApery.f
  rw [impl_within.eq]
  simp only [Option.bind_some]
  have bad : Box ((¬ ∃ s, ApOk l s) → ∃ r, Ev (fun k => impl_FromApery.j0 k l (l.length : Int) true) r ∧ FrApV l r) := ⟨fun h => by
    refine ⟨([], false), Ev.step (fun k => by rw [impl_FromApery.j0]) ?_, .inr ⟨h, rfl⟩⟩
    exact ev_pos rfl (Ev.now _)⟩
  by_cases c : 1 ≤ (l.length : Int) ∧ (l.length : Int) ≤ 60
  · have e0 : rd l 0 = l.getD 0 0 := rd_nat l 0
    rw [e0]
    by_cases c0 : l.getD 0 0 = 0
    · obtain ⟨r, hr, hp⟩ := impl_FromApery.l0_ev l (by omega) hwf l.length 0 [] (by omega) (ApPart.start l) (by simp)
      refine ⟨r, ev_pos (by simpa using c) (ev_pos (by omega) ?_), hp⟩
      rw [c0, bne_self_eq_false]
      refine Ev.step (fun k => by rw [impl_FromApery.j0]) ?_
      exact ev_neg (by simp) hr
    · obtain ⟨r, hr, hp⟩ := bad.out (by
        rintro ⟨s', hs'⟩
        exact c0 hs'.zero)
      refine ⟨r, ev_pos (by simpa using c) (ev_pos (by omega) ?_), hp⟩
      rw [show (l.getD 0 0 != 0) = true by rw [bne_iff_ne]; exact c0]
      exact hr
  · obtain ⟨r, hr, hp⟩ := bad.out (by
      rintro ⟨s', hs'⟩
      have := hs'.2.1
      omega)
    exact ⟨r, ev_neg (by simpa using c) hr, hp⟩

/-! impl_MultiplicityOf -/
theorem impl_MultiplicityOf.ev (g : List Int) (hgl : g.length ≤ 1048576) : Ev (fun k => impl_MultiplicityOf.f k g) (if B (SG g) = true then g.getD 0 0 else 0) := by
  unfold impl_MultiplicityOf.f
  refine Ev.bind (impl_IsSemigroup.ev g hgl) ?_
  by_cases h : SG g
  · rw [B_true h]
    refine ev_pos rfl ?_
    have h0 := h.1.1
    rw [show rd g 0 = g.getD 0 0 by simp [rd], if_pos rfl]
    exact ev_pos (by omega) (Ev.now _)
  · rw [B_false h]
    exact ev_neg (by simp) (Ev.now _)

/-! impl_CoordinatesOf -/
theorem impl_CoordinatesOf.l0_ev (m : Int) (h1 : 1 ≤ m) (h2 : m ≤ 60) (L : List Int) (hx : ∀ x ∈ L, 0 ≤ x ∧ x < 260) (hl : L.length ≤ 60) : ∀ (d i : Nat) (out : List Int), i + d = L.length → out.length ≤ i → Ev (fun k => impl_CoordinatesOf.l0 k m out L (L.length : Int) (i : Int)) (out ++ (L.drop i).map (fun x => x / m)) := by
  intro d
  induction d with
  | zero =>
    intro i out g1 g2
    refine Ev.step (fun k => by rw [impl_CoordinatesOf.l0]) ?_
    rw [List.drop_eq_nil_of_le (by omega), List.map_nil, List.append_nil]
    exact ev_neg (by omega) (Ev.now _)
  | succ d ih =>
    intro i out g1 g2
    have hi : i < L.length := by omega
    have b := hx L[i] (List.getElem_mem hi)
    have b1 : 0 ≤ L[i] / m := Int.ediv_nonneg b.1 (by omega)
    have b2 : L[i] / m ≤ L[i] := Int.ediv_le_self _ b.1
    have e1 : Box (wrap64 (Int.tdiv (rd L (i : Int)) m) = L[i] / m) := ⟨by rw [rd_nat, getD_get hi, Int.tdiv_eq_ediv_of_nonneg b.1, w64 (by omega) (by omega)]⟩
    refine Ev.step (fun k => by rw [impl_CoordinatesOf.l0]) ?_
    have := ih (i + 1) (out ++ [L[i] / m]) (by omega) (by rw [List.length_append, List.length_singleton]; omega)
    rw [List.append_assoc, List.singleton_append] at this
    rw [e1.out, wadd1 (by omega), List.drop_eq_getElem_cons hi, List.map_cons]
    clear b b1 b2 e1
    exact ev_pos (by omega) (ev_pos (by omega) (ev_pos (by omega) (ev_neg (by omega) (ev_pos (by omega) this))))
theorem impl_CoordinatesOf.ev (g : List Int) (hgl : g.length ≤ 1048576) : ∃ w, Ev (fun k => impl_CoordinatesOf.f k g) w ∧ CoV g w := by
  unfold impl_CoordinatesOf.f
  simp only [Option.bind_some]
  have hm := impl_MultiplicityOf.ev g hgl
  by_cases h : SG g
  · rw [B_true h, if_pos rfl] at hm
    have hh := h.head
    obtain ⟨L, hL, hA⟩ := impl_AperySet.ev g (g.getD 0 0) hgl
    rcases hA with ⟨hc, _⟩ | ⟨_, hA⟩
    · exact absurd ⟨h, Gen.one hh.1, hh.2.1, hh.2.2⟩ hc
    · have hl := hA.1
      have hd : ((L.drop 1).drop 0) = L.drop 1 := List.drop_zero
      refine ⟨(L.drop 1).map (fun x => x / g.getD 0 0), Ev.bind hm (ev_neg (by omega) (Ev.bind hL (ev_pos (by omega) ?_))), .inr ⟨h, L, hA, rfl⟩⟩
      have := impl_CoordinatesOf.l0_ev (g.getD 0 0) (by omega) (by omega) (L.drop 1) (fun x hx => hA.range h (by omega) (by omega) (List.mem_of_mem_drop hx)) (by rw [List.length_drop]; omega) (L.drop 1).length 0 [] (by omega) (by simp)
      rw [List.nil_append, hd] at this
      exact this
  · rw [B_false h, if_neg (by simp)] at hm
    exact ⟨[], Ev.bind hm (ev_pos rfl (Ev.now _)), .inl ⟨h, rfl⟩⟩

/-! impl_FromCoordinates -/
theorem impl_FromCoordinates.l0_ev (l : List Int) (hr : CoR l) : ∀ (d j : Nat) (A : List Int), j + d = l.length → CoPart l A j → ∃ r, Ev (fun k => impl_FromCoordinates.l0 k l ((l.length + 1 : Nat) : Int) A l (l.length : Int) (j : Int)) r ∧ ∃ A, CoAp l A ∧ FrApV A r := by
  have hl := hr.2
  intro d
  induction d with
  | zero =>
    intro j A h1 h2
    obtain rfl : j = l.length := by omega
    have hA := h2.done
    obtain ⟨r, hr', hv⟩ := impl_FromApery.ev A (fun x hx => by
      obtain ⟨i, hi, rfl⟩ := mem_getD hx
      cases i with
      | zero => rw [hA.2.1]; omega
      | succ i =>
        have hi' : i < l.length := by have := hA.1; omega
        rw [hA.2.2 i hi']
        have := CoPart.fits hr hi'
        omega)
    by_cases hb : r.2 = true
    · have hok := hv.ok hb
      obtain ⟨w, hw, hc⟩ := impl_CoordinatesOf.ev r.1 (by have := hv.length; omega)
      have e := hA.back hok hr hc
      subst e
      refine ⟨(r.1, true), Ev.step (fun k => by rw [impl_FromCoordinates.l0]) ?_, A, hA, .inl ⟨r.1, hok, rfl⟩⟩
      refine ev_neg (by omega) (Ev.bind hr' (ev_pos hb (Ev.bind hw (Ev.bind (slices_Equal_int_int.ev _ _ (by omega)) ?_))))
      rw [B_true rfl]
      exact ev_pos rfl (Ev.now _)
    · refine ⟨([], false), Ev.step (fun k => by rw [impl_FromCoordinates.l0]) ?_, A, hA, ?_⟩
      · exact ev_neg (by omega) (Ev.bind hr' (ev_neg hb (Ev.now _)))
      · rcases hv with ⟨s, h1, rfl⟩ | ⟨h1, rfl⟩
        · simp at hb
        · exact .inr ⟨h1, rfl⟩
  | succ d ih =>
    intro j A h1 h2
    have hj : j < l.length := by omega
    have hf := CoPart.fits hr hj
    have hA := h2.1
    have e2 : ((l.length + 1 : Nat) : Int) * l.getD j 0 = ((l.length : Int) + 1) * l.getD j 0 := by simp
    have e3 : wrap64 (((l.length + 1 : Nat) : Int) * l.getD j 0) = ((l.length : Int) + 1) * l.getD j 0 := by rw [e2]; exact w64 (by omega) (by omega)
    obtain ⟨r, hr', hv⟩ := ih (j + 1) (A ++ [wrap64 (((j + 1 : Nat) : Int) + ((l.length : Int) + 1) * l.getD j 0)]) (by omega) (h2.put (by rw [w64 (by omega) (by omega)]; omega))
    refine ⟨r, Ev.step (fun k => by rw [impl_FromCoordinates.l0]) ?_, hv⟩
    rw [wadd1 (j := j) (by omega), rd_nat, e3]
    exact ev_pos (by omega) (ev_pos (by omega) (ev_pos (by omega) (ev_pos (by omega) hr')))
theorem impl_FromCoordinates.ev (l : List Int) (hll : l.length ≤ 1048576) : ∃ r, Ev (fun k => impl_FromCoordinates.f k l) r ∧ FcV l r := by
  unfold impl_FromCoordinates.f
  rw [wadd1 (j := l.length) (by omega)]
  have bad : Box (Ev (fun k => impl_FromCoordinates.j0 k l ((l.length + 1 : Nat) : Int) true) ([], false)) := ⟨by
    refine Ev.step (fun k => by rw [impl_FromCoordinates.j0]) ?_
    exact ev_pos rfl (Ev.now _)⟩
  by_cases c : ((l.length + 1 : Nat) : Int) > 60
  · exact ⟨([], false), ev_pos c bad.out, .inr ⟨fun hr => by have := hr.2; omega, rfl⟩⟩
  · by_cases ca : ∀ x ∈ l, 1 ≤ x ∧ x ≤ 200
    · have hr : CoR l := ⟨ca, by omega⟩
      obtain ⟨r, hr', A, hA, hv⟩ := impl_FromCoordinates.l0_ev l hr l.length 0 [0] (by omega) (CoPart.start l)
      refine ⟨r, ev_neg c (Ev.bind (impl_allWithin.ev l 1 200 (by omega)) ?_), .inl ⟨hr, A, hA, hv⟩⟩
      rw [B_true ca]
      refine Ev.step (fun k => by rw [impl_FromCoordinates.j0]) ?_
      exact ev_neg (by simp) hr'
    · refine ⟨([], false), ev_neg c (Ev.bind (impl_allWithin.ev l 1 200 (by omega)) ?_), .inr ⟨fun hr => ca hr.1, rfl⟩⟩
      rw [B_false ca]
      exact bad.out

end Go.Proofs.Ytbagfnppeidonaa.PFnExactFromCoordinates
namespace Go.Proofs.Ytbagfnppeidonaa.Pure
open Go.RowKit Go.Proofs.YtbagfnppeidonaaW.PrintWords Go.Proofs.YtbagfnppeidonaaW.PrintLast Go.Proofs.YtbagfnppeidonaaW.PrintMore Go.Proofs.YtbagfnppeidonaaM
set_option linter.unusedVariables false
set_option linter.unusedSimpArgs false
open Go.Proofs.Ytbagfnppeidonaa.PFnExactFromCoordinates
theorem FnExactFromCoordinates : laws_FnExactFromCoordinates.Pure := by
  intro l0 hl hl8 hw
  refine Ev.rounds ?_
  unfold laws_FnExactFromCoordinates.f
  by_cases h : (l0.length : Int) > 1048576
  · exact ev_pos h (Ev.now _)
  · refine ev_neg h ?_
    have hx : l0.length ≤ 1048576 := by omega
    obtain ⟨r, hr1, hv1⟩ := spec_FromCoordinates.ev l0 hx
    obtain ⟨r', hr2, hv2⟩ := impl_FromCoordinates.ev l0 hx
    obtain rfl := FcV.unique hv1 hv2
    have hlen : r.1.length ≤ 1000000 := by have := hv1.length; omega
    refine Ev.bind (laws_toIntS.ev l0 hx) ?_
    refine Ev.bind hr1 ?_
    refine Ev.bind (laws_toIntS.ev l0 hx) ?_
    refine Ev.bind hr2 ?_
    refine Ev.bind (laws_eqSemigroup.ev _ _ (by omega)) ?_
    rw [B_true rfl]
    refine ev_pos rfl ?_
    rw [bne_self_eq_false]
    refine Ev.step (fun k => by rw [laws_FnExactFromCoordinates.j0]) ?_
    refine ev_neg (by simp) ?_
    refine Ev.bind (laws_toIntS.ev l0 hx) ?_
    refine Ev.bind (laws_eqIntS.ev _ _ (by omega)) ?_
    rw [B_true rfl]
    refine ev_pos rfl ?_
    refine Ev.bind (laws_markIntS.ev l0 (by omega) 1 (by omega) (by omega)) ?_
    refine ev_neg (by simp only []; omega) ?_
    refine Ev.bind (laws_eqSemigroup.ev _ _ (by omega)) ?_
    rw [B_true rfl]
    refine ev_pos rfl ?_
    rw [bne_self_eq_false]
    refine Ev.step (fun k => by rw [laws_FnExactFromCoordinates.j1]) ?_
    refine ev_neg (by simp) ?_
    refine Ev.bind (laws_markSemigroup.ev r.1 (by omega) 1 (by omega) (by omega)) ?_
    refine Ev.bind (laws_heldSemigroup.ev _ (by omega) 1 (by omega) (by omega)) ?_
    refine ev_neg (by omega) (ev_pos rfl ?_)
    refine Ev.bind (laws_toIntS.ev l0 hx) ?_
    refine Ev.bind hr2 ?_
    refine Ev.bind (laws_eqSemigroup.ev _ _ (by omega)) ?_
    rw [B_true rfl]
    refine ev_pos rfl ?_
    rw [bne_self_eq_false]
    refine Ev.step (fun k => by rw [laws_FnExactFromCoordinates.j2]) ?_
    refine ev_neg (by simp) ?_
    refine Ev.bind (laws_heldSemigroup.ev _ (by omega) 1 (by omega) (by omega)) ?_
    exact ev_neg (by omega) (ev_pos rfl (Ev.now _))

end Go.Proofs.Ytbagfnppeidonaa.Pure
