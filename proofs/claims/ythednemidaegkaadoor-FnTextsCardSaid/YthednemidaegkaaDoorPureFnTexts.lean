/- A semigroup is parsed from its text: for every input. No further condition. -/
import Derived.Test.YthednemidaegkaaDoorPFnTextsx2
import Derived.Test.YthednemidaegkaaDoorPFnTextsx3
import Derived.Test.YthednemidaegkaaDoorPFnTextsx5
import Derived.Test.YthednemidaegkaaDoorPFnTextsx6
import Derived.Test.YthednemidaegkaaDoorPFnTextsx7
import Derived.Test.YthednemidaegkaaDoorPFnTextsx8
import Derived.Test.YthednemidaegkaaDoorPFnTextsx11
import Derived.Test.YthednemidaegkaaDoorPFnTextsx12
import Derived.Test.YthednemidaegkaaDoorPFnTextsx13
import Derived.Test.YthednemidaegkaaDoorPFnTextsx15
import Derived.Test.YthednemidaegkaaDoorPFnTextsx17
import Derived.Test.YthednemidaegkaaDoorPFnTextsx18
import Derived.Test.YthednemidaegkaaDoorMathFnTexts
namespace Go.Proofs.YthednemidaegkaaDoor.PFnTexts
open Go.RowKit Go.Proofs.YthednemidaegkaaDoorW.PrintWords Go.Proofs.YthednemidaegkaaDoorW.PrintLast Go.Proofs.YthednemidaegkaaDoorW.PrintMore Go.Proofs.YthednemidaegkaaDoorM
set_option linter.unusedVariables false
set_option linter.unusedSimpArgs false
/-! laws_big -/
theorem laws_big.eq (l : List Int) : laws_big.f l = some (decide ((l.length : Int) > 1048576)) := rfl

/-! spec_l1Byte -/
theorem spec_l1Byte.eq (s : List Int) (hs : s.length < 4611686018427387904) (i : Int) (hi : 0 ≤ i) (h : Int) : ∃ x i' h', spec_l1Byte.f s i h = some (x, i', h') ∧ (0 ≤ x ∧ x ≤ 255) ∧ 0 ≤ i' := by
  unfold spec_l1Byte.f
  by_cases c : i < (s.length : Int)
  · rw [if_pos c, if_pos hi]
    have e : wrap64 (i + 1) = i + 1 := w64 (by omega) (by omega)
    exact ⟨_, _, _, rfl, and255 _, by rw [e]; omega⟩
  · rw [if_neg c]
    exact ⟨_, _, _, rfl, and255 _, hi⟩

/-! spec_l1Below -/
theorem tmod_range {x n : Int} (hx : 0 ≤ x) (hn : 1 ≤ n) : 0 ≤ Int.tmod x n ∧ Int.tmod x n < n := by
  rw [Int.tmod_eq_emod_of_nonneg hx]
  exact ⟨Int.emod_nonneg _ (by omega), Int.emod_lt_of_pos _ (by omega)⟩
theorem spec_l1Below.eq (s : List Int) (hs : s.length < 4611686018427387904) (i : Int) (hi : 0 ≤ i) (h n : Int) (hn : 1 ≤ n) : ∃ x i' h', spec_l1Below.f s i h n = some (x, i', h') ∧ (0 ≤ x ∧ x < n) ∧ 0 ≤ i' := by
  unfold spec_l1Below.f
  rw [if_neg (by omega)]
  obtain ⟨x, i1, h1, e1, hx, hi1⟩ := spec_l1Byte.eq s hs i hi h
  by_cases c : n ≤ 256
  · rw [if_pos c, e1]
    simp only [Option.bind_some]
    rw [if_neg (by omega)]
    exact ⟨_, _, _, rfl, tmod_range hx.1 hn, hi1⟩
  · rw [if_neg c, e1]
    simp only [Option.bind_some]
    obtain ⟨y, i2, h2, e2, hy, hi2⟩ := spec_l1Byte.eq s hs i1 hi1 h1
    rw [e2]
    simp only [Option.bind_some]
    obtain ⟨z, i3, h3, e3, hz, hi3⟩ := spec_l1Byte.eq s hs i2 hi2 h2
    rw [e3]
    simp only [Option.bind_some]
    obtain ⟨v, i4, h4, e4, hv, hi4⟩ := spec_l1Byte.eq s hs i3 hi3 h3
    rw [e4]
    simp only [Option.bind_some]
    rw [if_neg (by omega)]
    have a1 : wrap64 (x * 16777216) = x * 16777216 := w64 (by omega) (by omega)
    have a2 : wrap64 (y * 65536) = y * 65536 := w64 (by omega) (by omega)
    have a3 : wrap64 (z * 256) = z * 256 := w64 (by omega) (by omega)
    rw [a1, a2, a3]
    have a4 : wrap64 (x * 16777216 + y * 65536) = x * 16777216 + y * 65536 := w64 (by omega) (by omega)
    rw [a4]
    have a5 : wrap64 (x * 16777216 + y * 65536 + z * 256) = x * 16777216 + y * 65536 + z * 256 := w64 (by omega) (by omega)
    rw [a5]
    have a6 : wrap64 (x * 16777216 + y * 65536 + z * 256 + v) = x * 16777216 + y * 65536 + z * 256 + v := w64 (by omega) (by omega)
    rw [a6]
    exact ⟨_, _, _, rfl, tmod_range (by omega) hn, hi4⟩

/-! spec_l1Once -/
theorem spec_l1Once.eq (s : List Int) (hs : s.length < 4611686018427387904) (i : Int) (hi : 0 ≤ i) (h n : Int) (hn : 1 ≤ n) : ∃ b i' h', spec_l1Once.f s i h n = some (b, i', h') ∧ 0 ≤ i' := by
  obtain ⟨x, i1, h1, e1, hx, hi1⟩ := spec_l1Below.eq s hs i hi h n hn
  unfold spec_l1Once.f
  rw [e1]
  exact ⟨_, _, _, rfl, hi1⟩

/-! spec_l1In -/
theorem spec_l1In.eq (a b c : Int) : spec_l1In.f a b c = some (decide (b ≤ a ∧ a ≤ c)) := by
  unfold spec_l1In.f
  by_cases h : b ≤ a <;> simp [h]

/-! spec_l3Gens -/
theorem spec_l3Gens.l0_ev (l : List Int) (hl : l.length < 4611686018427387904) : ∀ (d j : Nat), j + d = l.length → Ev (fun k => spec_l3Gens.l0 k l (j : Int)) (B ((∀ x ∈ l.drop j, 1 ≤ x ∧ x ≤ 60) ∧ 1 ≤ l.length ∧ l.length ≤ 20)) := by
  intro d
  induction d with
  | zero =>
    intro j h1
    refine Ev.step (fun k => by rw [spec_l3Gens.l0]) ?_
    rw [B_congr (q := 1 ≤ (l.length : Int) ∧ (l.length : Int) ≤ 20) (by rw [List.drop_of_length_le (by omega)]; simp; omega), ← B_dec]
    simp only [spec_l1In.eq, Option.bind_some]
    exact ev_neg (by omega) (Ev.now _)
  | succ d ih =>
    intro j h1
    have hj : j < l.length := by omega
    refine Ev.step (fun k => by rw [spec_l3Gens.l0]) ?_
    rw [wadd1 (by omega), rd_nat, getD_get hj, List.drop_eq_getElem_cons hj, spec_l1In.eq]
    simp only [Option.bind_some]
    refine ev_pos (by omega) (ev_pos (by omega) ?_)
    by_cases e : 1 ≤ l[j] ∧ l[j] ≤ 60
    · refine ev_pos (decide_eq_true e) ?_
      rw [B_congr (q := (∀ x ∈ l.drop (j + 1), 1 ≤ x ∧ x ≤ 60) ∧ 1 ≤ l.length ∧ l.length ≤ 20) (by simp only [List.forall_mem_cons, e.1, e.2, and_self, true_and])]
      exact ih (j + 1) (by omega)
    · refine ev_neg (by simpa using e) ?_
      rw [B_false (fun h => e (h.1 _ List.mem_cons_self))]
      exact Ev.now _
theorem spec_l3Gens.ev (l : List Int) (hl : l.length < 4611686018427387904) : Ev (fun k => spec_l3Gens.f k l) (B ((∀ x ∈ l, 1 ≤ x ∧ x ≤ 60) ∧ 1 ≤ l.length ∧ l.length ≤ 20)) := by
  unfold spec_l3Gens.f
  exact spec_l3Gens.l0_ev l hl l.length 0 (by omega)

/-! spec_IsAscending -/
theorem spec_IsAscending.l0_ev (l : List Int) (hl : l.length < 4611686018427387904) : ∀ (d j : Nat), l.length ≤ j + 1 + d → Ev (fun k => spec_IsAscending.l0 k l ((j + 1 : Nat) : Int)) (B (∀ i, j ≤ i → i + 1 < l.length → l.getD i 0 < l.getD (i + 1) 0)) := by
  intro d
  induction d with
  | zero =>
    intro j h1
    refine Ev.step (fun k => by rw [spec_IsAscending.l0]) ?_
    rw [B_true (fun i _ _ => by omega)]
    exact ev_neg (by omega) (Ev.now _)
  | succ d ih =>
    intro j h1
    refine Ev.step (fun k => by rw [spec_IsAscending.l0]) ?_
    by_cases hj : j + 1 < l.length
    · have e1 : wrap64 (((j + 1 : Nat) : Int) - 1) = (j : Int) := by rw [w64 (by omega) (by omega)]; omega
      rw [e1, wadd1 (by omega), rd_nat, rd_nat]
      refine ev_pos (by omega) (ev_pos (by omega) (ev_pos (by omega) (ev_pos (by omega) ?_)))
      by_cases e : l.getD j 0 ≥ l.getD (j + 1) 0
      · refine ev_pos e ?_
        rw [B_false (fun h => by have := h j (by omega) hj; omega)]
        exact Ev.now _
      · refine ev_neg e ?_
        rw [B_congr (q := ∀ i, j + 1 ≤ i → i + 1 < l.length → l.getD i 0 < l.getD (i + 1) 0) ⟨fun h i hi => h i (by omega), fun h i hi h2 => by
          by_cases e3 : i = j
          · subst e3; omega
          · exact h i (by omega) h2⟩]
        exact ih (j + 1) (by omega)
    · rw [B_true (fun i _ _ => by omega)]
      exact ev_neg (by omega) (Ev.now _)
theorem spec_IsAscending.ev (l : List Int) (hl : l.length < 4611686018427387904) : Ev (fun k => spec_IsAscending.f k l) (B (Asc l)) := by
  unfold spec_IsAscending.f
  rw [B_congr (p := Asc l) (q := ∀ i, 0 ≤ i → i + 1 < l.length → l.getD i 0 < l.getD (i + 1) 0) ⟨fun h i _ => h i, fun h i => h i (by omega)⟩]
  exact spec_IsAscending.l0_ev l hl l.length 0 (by omega)

/-! spec_l2Small -/
theorem spec_l2Small.eq (a : Int) : spec_l2Small.f a = some (decide (-1000000 ≤ a ∧ a ≤ 1000000)) := by
  unfold spec_l2Small.f
  rw [spec_l1In.eq]; rfl

/-! spec_l1Max -/
theorem spec_l1Max.eq (a b : Int) : spec_l1Max.f a b = some (mx a b) := by
  unfold spec_l1Max.f mx
  split <;> split <;> first | rfl | (congr 1; omega)

/-! spec_GcdOf -/
theorem spec_GcdOf.l0_ev : ∀ (n m : Nat), Ev (fun k => spec_GcdOf.l0 k (m : Int) (n : Int)) ((Nat.gcd m n : Nat) : Int) := by
  intro n
  induction n using Nat.strongRecOn with
  | _ n ih =>
    intro m
    refine Ev.step (fun k => by rw [spec_GcdOf.l0]) ?_
    by_cases e : n = 0
    · subst e
      rw [Nat.gcd_zero_right]
      exact ev_neg (by omega) (Ev.now _)
    · refine ev_pos (by omega) (ev_neg (by omega) ?_)
      rw [← Int.ofNat_tmod, Nat.gcd_comm m n, Nat.gcd_rec n m, Nat.gcd_comm]
      exact ih (m % n) (Nat.mod_lt _ (by omega)) n
theorem spec_GcdOf.ev (a b : Int) : Ev (fun k => spec_GcdOf.f k a b) (gcdV a b) := by
  unfold spec_GcdOf.f
  simp only [spec_l2Small.eq, Option.bind_some]
  by_cases ha : -1000000 ≤ a ∧ a ≤ 1000000
  · by_cases hb : -1000000 ≤ b ∧ b ≤ 1000000
    · rw [decide_eq_true ha, decide_eq_true hb]
      refine ev_pos rfl ?_
      refine Ev.step (fun k => by rw [spec_GcdOf.j0]) ?_
      simp only [spec_l1Max.eq, Option.bind_some, mx_abs ha.1 ha.2, mx_abs hb.1 hb.2]
      refine ev_neg (by simp) ?_
      rw [gcdV, if_pos ⟨ha, hb⟩]
      exact spec_GcdOf.l0_ev _ _
    · rw [decide_eq_true ha, decide_eq_false hb]
      refine ev_pos rfl ?_
      refine Ev.step (fun k => by rw [spec_GcdOf.j0]) ?_
      rw [gcdV, if_neg (fun h => hb h.2)]
      exact ev_pos rfl (Ev.now _)
  · rw [decide_eq_false ha]
    refine ev_neg (by simp) ?_
    refine Ev.step (fun k => by rw [spec_GcdOf.j0]) ?_
    rw [gcdV, if_neg (fun h => ha h.1)]
    exact ev_pos rfl (Ev.now _)

/-! spec_GcdOfList -/
theorem spec_GcdOfList.l0_ev (l : List Int) (hl : l.length < 4611686018427387904) : ∀ (d j : Nat) (g : Int), j + d = l.length → Ev (fun k => spec_GcdOfList.l0 k l g (j : Int)) ((l.drop j).foldl gcdV g) := by
  intro d
  induction d with
  | zero =>
    intro j g h1
    refine Ev.step (fun k => by rw [spec_GcdOfList.l0]) ?_
    rw [List.drop_of_length_le (by omega)]
    exact ev_neg (by omega) (Ev.now _)
  | succ d ih =>
    intro j g h1
    have hj : j < l.length := by omega
    refine Ev.step (fun k => by rw [spec_GcdOfList.l0]) ?_
    rw [wadd1 (by omega), rd_nat, getD_get hj, List.drop_eq_getElem_cons hj, List.foldl_cons]
    exact ev_pos (by omega) (ev_pos (by omega) (Ev.bind (spec_GcdOf.ev _ _) (ih (j + 1) _ (by omega))))
theorem spec_GcdOfList.ev (l : List Int) (hl : l.length < 4611686018427387904) : Ev (fun k => spec_GcdOfList.f k l) (gcdLV l) := by
  unfold spec_GcdOfList.f gcdLV
  exact spec_GcdOfList.l0_ev l hl l.length 0 0 (by omega)

/-! spec_l2Same -/
theorem spec_l2Same.l0_ev (x y : List Int) (hl : x.length = y.length) (hx : x.length < 4611686018427387904) : ∀ (d j : Nat), j + d = x.length → Ev (fun k => spec_l2Same.l0 k x y (j : Int)) (B (x.drop j = y.drop j)) := by
  intro d
  induction d with
  | zero =>
    intro j h1
    refine Ev.step (fun k => by rw [spec_l2Same.l0]) ?_
    rw [B_true (by rw [List.drop_of_length_le (by omega), List.drop_of_length_le (by omega)])]
    exact ev_neg (by omega) (Ev.now _)
  | succ d ih =>
    intro j h1
    have hj : j < x.length := by omega
    have hj' : j < y.length := by omega
    refine Ev.step (fun k => by rw [spec_l2Same.l0]) ?_
    refine ev_pos (by omega) (ev_pos (by omega) (ev_pos (by omega) ?_))
    rw [wadd1 (by omega), rd_nat, rd_nat, getD_get hj, getD_get hj', List.drop_eq_getElem_cons hj, List.drop_eq_getElem_cons hj']
    by_cases e : x[j] = y[j]
    · refine ev_pos e ?_
      have := ih (j + 1) (by omega)
      rw [B_congr (q := x.drop (j + 1) = y.drop (j + 1)) (by simp only [e, List.cons.injEq, true_and])]
      exact this
    · refine ev_neg e ?_
      rw [B_false (fun h => e (List.cons.inj h).1)]
      exact Ev.now _
theorem spec_l2Same.ev (x y : List Int) (hx : x.length < 4611686018427387904) : Ev (fun k => spec_l2Same.f k x y) (B (x = y)) := by
  unfold spec_l2Same.f
  by_cases e : x.length = y.length
  · refine ev_pos (by omega) ?_
    exact spec_l2Same.l0_ev x y e hx x.length 0 (by omega)
  · refine ev_neg (by omega) ?_
    rw [B_false (fun h => e (by rw [h]))]
    exact Ev.now _

/-! spec_SortList -/
theorem spec_SortList.l0_ev (l : List Int) (hl : l.length ≤ 1000000000) : ∀ (d j : Nat) (s : List Int), j + d = l.length → s.length ≤ j → IsSort (l.take j) s → ∃ r, Ev (fun k => spec_SortList.l0 k l s (j : Int)) r ∧ IsSort l r ∧ r.length ≤ l.length := by
  intro d
  induction d with
  | zero =>
    intro j s h1 h2 h3
    rw [List.take_of_length_le (by omega)] at h3
    refine ⟨s, Ev.step (fun k => by rw [spec_SortList.l0]) ?_, h3, by omega⟩
    exact ev_neg (by omega) (Ev.now _)
  | succ d ih =>
    intro j s h1 h2 h3
    have hj : j < l.length := by omega
    have same : Box (l[j] ∈ s → ∃ r, Ev (fun k => spec_SortList.l0 k l s (wrap64 ((j : Int) + 1))) r ∧ IsSort l r ∧ r.length ≤ l.length) := Box.mk <| by
      intro hm
      rw [wadd1 (by omega)]
      refine ih (j + 1) s (by omega) (by omega) ⟨h3.1, fun x => ?_⟩
      rw [List.take_succ_eq_append_getElem hj, List.mem_append, List.mem_singleton, ← h3.2]
      constructor
      · intro h; exact .inl h
      · rintro (h | h)
        · exact h
        · rw [h]; exact hm
    have inner : ∀ (b : Nat), b ≤ s.length → (∀ i, b ≤ i → i < s.length → l[j] < s.getD i 0) → ∃ r, Ev (fun k => spec_SortList.l1 k l s (j : Int) (b : Int)) r ∧ IsSort l r ∧ r.length ≤ l.length := by
      have put : ∀ b : Nat, b ≤ s.length → (0 < b → s.getD (b - 1) 0 < l[j]) → (∀ i, b ≤ i → i < s.length → l[j] < s.getD i 0) → ∃ r, Ev (fun k => spec_SortList.l0 k l (s.take b ++ [l[j]] ++ ([] ++ s.drop b)) (wrap64 ((j : Int) + 1))) r ∧ IsSort l r ∧ r.length ≤ l.length := by
        intro b hb hlo hhi
        obtain ⟨p1, p2⟩ := insert_sorted h3.1 b hb l[j] hlo hhi
        rw [wadd1 (by omega), List.nil_append]
        refine ih (j + 1) _ (by omega) (by simp; omega) ⟨p1, fun x => ?_⟩
        rw [p2, List.take_succ_eq_append_getElem hj, List.mem_append, List.mem_singleton, h3.2]
      intro b
      induction b with
      | zero =>
        intro hb hhi
        obtain ⟨r, hr, hs, hl'⟩ := put 0 (by omega) (fun h => by omega) hhi
        refine ⟨r, Ev.step (fun k => by rw [spec_SortList.l1]) ?_, hs, hl'⟩
        simp only [Option.bind_some, rd_nat, getD_get hj]
        exact ev_neg (by omega) (ev_pos (by omega) (ev_pos (by omega) (ev_pos (by simp; omega) (ev_pos (by omega) (ev_pos (by omega) (ev_pos (by simp) (ev_pos (by simp; omega) hr)))))))
      | succ b ihb =>
        intro hb hhi
        have e1 : wrap64 (((b + 1 : Nat) : Int) - 1) = (b : Int) := by rw [w64 (by omega) (by omega)]; omega
        by_cases c1 : s.getD b 0 > l[j]
        · obtain ⟨r, hr, hs, hl'⟩ := ihb (by omega) (fun i i1 i2 => by
            by_cases e : i = b
            · subst e; omega
            · exact hhi i (by omega) i2)
          refine ⟨r, Ev.step (fun k => by rw [spec_SortList.l1]) ?_, hs, hl'⟩
          rw [e1, rd_nat, rd_nat, getD_get hj]
          exact ev_pos (by omega) (ev_pos (by omega) (ev_pos (by omega) (ev_pos (by omega) (ev_pos (by omega) (ev_pos c1 hr)))))
        · by_cases c2 : s.getD b 0 = l[j]
          · obtain ⟨r, hr, hs, hl'⟩ := same.out (by rw [← c2]; exact getD_mem (by omega))
            refine ⟨r, Ev.step (fun k => by rw [spec_SortList.l1]) ?_, hs, hl'⟩
            rw [e1, rd_nat, rd_nat, getD_get hj]
            exact ev_pos (by omega) (ev_pos (by omega) (ev_pos (by omega) (ev_pos (by omega) (ev_pos (by omega) (ev_neg c1 (ev_pos c2 hr))))))
          · obtain ⟨r, hr, hs, hl'⟩ := put (b + 1) (by omega) (fun _ => by rw [Nat.add_sub_cancel]; omega) hhi
            refine ⟨r, Ev.step (fun k => by rw [spec_SortList.l1]) ?_, hs, hl'⟩
            simp only [Option.bind_some]
            rw [e1, rd_nat, rd_nat, getD_get hj, Int.toNat_natCast]
            exact ev_pos (by omega) (ev_pos (by omega) (ev_pos (by omega) (ev_pos (by omega) (ev_pos (by omega) (ev_neg c1 (ev_neg c2 (ev_pos (by omega) (ev_pos (by omega) (ev_pos (by simp; omega) (ev_pos (by simp; omega) (ev_pos (by simp; omega) hr)))))))))))
    obtain ⟨r, hr, hs, hl'⟩ := inner s.length (by omega) (fun i i1 i2 => by omega)
    refine ⟨r, Ev.step (fun k => by rw [spec_SortList.l0]) ?_, hs, hl'⟩
    exact ev_pos (by omega) hr
theorem spec_SortList.ev (l : List Int) (hl : l.length ≤ 1000000000) : ∃ r, Ev (fun k => spec_SortList.f k l) r ∧ IsSort l r ∧ r.length ≤ l.length := by
  unfold spec_SortList.f
  exact spec_SortList.l0_ev l hl l.length 0 [] (by omega) (by simp) ⟨.nil, by simp⟩

/-! spec_l3Table -/
theorem spec_l3Table.l0_ev (g : List Int) (hg : ∀ x ∈ g, 1 ≤ x) (hgb : ∀ x ∈ g, x ≤ 4611686018427387904) (hgl : g.length < 4611686018427387904) (m : Nat) (hm : m < 1000000000000) :
    ∀ (d n : Nat) (T : List Bool), n + d = m + 1 → 1 ≤ n → Marked T (m + 1) (fun y => y < (n : Int) ∧ Gen g y) → ∃ T', Ev (fun k => spec_l3Table.l0 k g (m : Int) T (n : Int)) T' ∧ IsTable g (m + 1) T' := by
  intro d
  induction d with
  | zero =>
    intro n T h1 h2 h3
    refine ⟨T, Ev.step (fun k => by rw [spec_l3Table.l0]) ?_, h3.congr (fun i hi => ⟨fun h => h.2, fun h => ⟨by omega, h⟩⟩)⟩
    exact ev_neg (by omega) (Ev.now _)
  | succ d ih =>
    intro n T h1 h2 h3
    have inner : ∀ (d' j : Nat) (T : List Bool), j + d' = g.length → Marked T (m + 1) (fun y => (y < (n : Int) ∧ Gen g y) ∨ (y = (n : Int) ∧ ∃ x ∈ g.take j, Gen g ((n : Int) - x))) →
        ∃ T', Ev (fun k => spec_l3Table.l1 k g (m : Int) T (n : Int) (j : Int)) T' ∧ IsTable g (m + 1) T' := by
      intro d'
      induction d' with
      | zero =>
        intro j T g1 g2
        obtain ⟨T', ht, hT⟩ := ih (n + 1) T (by omega) (by omega) (g2.congr (fun i hi => by
          rw [List.take_of_length_le (by omega)]
          constructor
          · rintro (⟨a, b⟩ | ⟨a, x, hx, b⟩)
            · exact ⟨by omega, b⟩
            · rw [a]; exact ⟨by omega, Gen.back hx b⟩
          · rintro ⟨a, b⟩
            by_cases e : (i : Int) < (n : Int)
            · exact .inl ⟨e, b⟩
            · right
              have e2 : (i : Int) = (n : Int) := by omega
              rw [e2] at b
              rcases b.inv with b | ⟨x, hx, b⟩
              · omega
              · exact ⟨e2, x, hx, b⟩))
        refine ⟨T', Ev.step (fun k => by rw [spec_l3Table.l1]) ?_, hT⟩
        refine ev_neg (by omega) ?_
        rw [wadd1 (by omega)]; exact ht
      | succ d' ih' =>
        intro j T g1 g2
        have hj : j < g.length := by omega
        have hx1 := hg _ (List.getElem_mem hj)
        have hx2 := hgb _ (List.getElem_mem hj)
        have hT := g2.1
        have next : ∀ T2, Marked T2 (m + 1) (fun y => (y < (n : Int) ∧ Gen g y) ∨ (y = (n : Int) ∧ ∃ x ∈ g.take (j + 1), Gen g ((n : Int) - x))) → ∃ T', Ev (fun k => spec_l3Table.l1 k g (m : Int) T2 (n : Int) (wrap64 ((j : Int) + 1))) T' ∧ IsTable g (m + 1) T' := by
          intro T2 h
          rw [wadd1 (by omega)]
          exact ih' (j + 1) T2 (by omega) h
        by_cases c : (n : Int) ≥ g[j]
        · have e1 : wrap64 ((n : Int) - g[j]) = ((((n : Int) - g[j]).toNat : Nat) : Int) := by rw [w64 (by omega) (by omega)]; omega
          have hlt : ((n : Int) - g[j]).toNat < m + 1 := by omega
          by_cases ct : T.getD ((n : Int) - g[j]).toNat false = true
          · have hgen : Gen g ((n : Int) - g[j]) := by
              have := (g2.2 _ hlt).1 ct
              rw [Int.toNat_of_nonneg (by omega)] at this
              rcases this with ⟨_, b⟩ | ⟨a, _⟩
              · exact b
              · omega
            obtain ⟨T', ht, hT'⟩ := next (T.set ((n : Int)).toNat true) (g2.step (by omega) (by omega) (fun y => by
              rw [List.take_succ_eq_append_getElem hj]
              constructor
              · rintro (a | ⟨a, x, hx, b⟩)
                · exact .inl (.inl a)
                · exact .inr a
              · rintro ((a | ⟨a, x, hx, b⟩) | a)
                · exact .inl a
                · exact .inr ⟨a, x, List.mem_append.2 (.inl hx), b⟩
                · exact .inr ⟨a, g[j], List.mem_append.2 (.inr (List.mem_singleton.2 rfl)), hgen⟩))
            refine ⟨T', Ev.step (fun k => by rw [spec_l3Table.l1]) ?_, hT'⟩
            rw [rd_nat, getD_get hj, e1, rdOf_nat]
            exact ev_pos (by omega) (ev_pos (by omega) (ev_pos c (ev_pos (by omega) (ev_pos (by omega) (ev_pos ct (ev_pos (by omega) (ev_pos (by omega) ht)))))))
          · obtain ⟨T', ht, hT'⟩ := next T (g2.congr (fun i hi => by
              rw [List.take_succ_eq_append_getElem hj]
              constructor
              · rintro (a | ⟨a, x, hx, b⟩)
                · exact .inl a
                · exact .inr ⟨a, x, List.mem_append.2 (.inl hx), b⟩
              · rintro (a | ⟨a, x, hx, b⟩)
                · exact .inl a
                · rcases List.mem_append.1 hx with hx | hx
                  · exact .inr ⟨a, x, hx, b⟩
                  · rw [List.mem_singleton.1 hx] at b
                    exact absurd ((g2.2 _ hlt).2 (by rw [Int.toNat_of_nonneg (by omega)]; exact .inl ⟨by omega, b⟩)) ct))
            refine ⟨T', Ev.step (fun k => by rw [spec_l3Table.l1]) ?_, hT'⟩
            rw [rd_nat, getD_get hj, e1, rdOf_nat]
            exact ev_pos (by omega) (ev_pos (by omega) (ev_pos c (ev_pos (by omega) (ev_pos (by omega) (ev_neg ct ht)))))
        · obtain ⟨T', ht, hT'⟩ := next T (g2.congr (fun i hi => by
            rw [List.take_succ_eq_append_getElem hj]
            constructor
            · rintro (a | ⟨a, x, hx, b⟩)
              · exact .inl a
              · exact .inr ⟨a, x, List.mem_append.2 (.inl hx), b⟩
            · rintro (a | ⟨a, x, hx, b⟩)
              · exact .inl a
              · rcases List.mem_append.1 hx with hx | hx
                · exact .inr ⟨a, x, hx, b⟩
                · rw [List.mem_singleton.1 hx] at b
                  have := b.nonneg hg
                  omega))
          refine ⟨T', Ev.step (fun k => by rw [spec_l3Table.l1]) ?_, hT'⟩
          rw [rd_nat, getD_get hj]
          exact ev_pos (by omega) (ev_pos (by omega) (ev_neg c ht))
    obtain ⟨T', ht, hT⟩ := inner g.length 0 T (by omega) (h3.congr (fun i hi => by
      constructor
      · intro a; exact .inl a
      · rintro (a | ⟨_, x, hx, _⟩)
        · exact a
        · simp at hx))
    refine ⟨T', Ev.step (fun k => by rw [spec_l3Table.l0]) ?_, hT⟩
    exact ev_pos (by omega) ht
theorem spec_l3Table.ev (g : List Int) (hg : ∀ x ∈ g, 1 ≤ x) (hgb : ∀ x ∈ g, x ≤ 4611686018427387904) (hgl : g.length < 4611686018427387904) (m : Nat) (hm : m < 1000000000000) : ∃ T, Ev (fun k => spec_l3Table.f k g (m : Int)) T ∧ IsTable g (m + 1) T := by
  obtain ⟨T, ht, hT⟩ := spec_l3Table.l0_ev g hg hgb hgl m hm m 1 ((List.replicate (m + 1) false).set (0 : Int).toNat true) (by omega) (by omega)
    ((Marked.init (P := fun _ => False) (fun _ h => h)).step (Q := fun y => y = 0) (x := 0) (by omega) (by omega) (fun y => by simp) |>.congr (fun i hi => by
      constructor
      · intro h
        have e : (i : Int) = 0 := h
        rw [e]
        exact ⟨by omega, .zero⟩
      · rintro ⟨h, _⟩
        show (i : Int) = 0
        omega))
  refine ⟨T, ?_, hT⟩
  unfold spec_l3Table.f
  rw [wadd1 (by omega)]
  simp only [Int.toNat_natCast, Option.bind_some, List.length_replicate]
  exact ev_pos (by omega) (ev_pos (by omega) (ev_pos (by omega) ht))

/-! spec_l3Minimal -/
theorem spec_l3Minimal.l0_ev (s : List Int) (hs : ∀ x ∈ s, 1 ≤ x ∧ x ≤ 1000000) (hsl : s.length ≤ 1000000000) : ∀ (d j : Nat), j + d = s.length → Ev (fun k => spec_l3Minimal.l0 k (minK s j) s (j : Int)) (minV s) := by
  intro d
  induction d with
  | zero =>
    intro j h1
    refine Ev.step (fun k => by rw [spec_l3Minimal.l0]) ?_
    unfold minV
    rw [show j = s.length by omega]
    exact ev_neg (by omega) (Ev.now _)
  | succ d ih =>
    intro j h1
    have hj : j < s.length := by omega
    have hlen := minK_length s j
    have hx := hs _ (List.getElem_mem hj)
    have := ih (j + 1) (by omega)
    rw [minK] at this
    refine Ev.step (fun k => by rw [spec_l3Minimal.l0]) ?_
    rw [wadd1 (by omega), rd_nat, Int.toNat_natCast]
    refine ev_pos (by omega) ?_
    by_cases e : j = 0
    · refine ev_pos (by omega) (ev_pos (by omega) (ev_pos (by omega) ?_))
      rw [B_true (.inl e), if_pos rfl] at this
      exact this
    · refine ev_neg (by omega) (ev_pos (by omega) (ev_pos (by omega) ?_))
      rw [getD_get hj] at this ⊢
      obtain ⟨v, hv⟩ : ∃ v : Nat, (v : Int) = s[j] := ⟨s[j].toNat, by omega⟩
      obtain ⟨T, ht, hT⟩ := spec_l3Table.ev (s.take j) (fun x hx' => (hs x (List.take_subset _ _ hx')).1) (fun x hx' => by have := hs x (List.take_subset _ _ hx'); omega) (by simp; omega) v (by omega)
      rw [← hv]
      refine Ev.bind ht ?_
      have hTl := hT.1
      refine ev_pos (by omega) (ev_pos (by omega) ?_)
      rw [rdOf_nat, hT.at v (by omega)]
      rw [← hv] at this
      by_cases c : Gen (s.take j) (v : Int)
      · rw [B_true c]
        rw [B_false (by rintro (h | h); exact e h; exact h c), if_neg (by simp), List.append_nil] at this
        exact ev_pos rfl this
      · rw [B_false c]
        rw [B_true (.inr c), if_pos rfl] at this
        exact ev_neg (by simp) (ev_pos (by omega) this)
theorem spec_l3Minimal.ev (l : List Int) (hs : ∀ x ∈ l, 1 ≤ x ∧ x ≤ 1000000) (hsl : l.length ≤ 1000000000) : ∃ s, IsSort l s ∧ s.length ≤ l.length ∧ Ev (fun k => spec_l3Minimal.f k l) (minV s) := by
  obtain ⟨s, h1, h2, h3⟩ := spec_SortList.ev l hsl
  refine ⟨s, h2, h3, ?_⟩
  unfold spec_l3Minimal.f
  exact Ev.bind h1 (spec_l3Minimal.l0_ev s (fun x hx => hs x ((h2.2 x).1 hx)) (by omega) s.length 0 (by omega))

/-! spec_l3Ends -/
theorem spec_l3Ends.l0_ev (g : List Int) (hg0 : 0 < g.length) (a : Nat) (ha : (a : Int) = g.getD 0 0) (ha' : a ≤ 60) (T : List Bool) (hT : IsTable g 261 T) : ∀ (d n : Nat), n + d = 200 + a → Ev (fun k => spec_l3Ends.l0 k g T (n : Int)) (B (∀ m : Int, (n : Int) ≤ m → m < 200 + (a : Int) → Gen g m)) := by
  have hTl := hT.1
  intro d
  induction d with
  | zero =>
    intro n h1
    refine Ev.step (fun k => by rw [spec_l3Ends.l0]) ?_
    rw [show (0 : Int) = ((0 : Nat) : Int) from rfl, rd_nat, ← ha, w64 (by omega) (by omega), B_true (fun m _ _ => by omega)]
    exact ev_pos (by omega) (ev_neg (by omega) (Ev.now _))
  | succ d ih =>
    intro n h1
    refine Ev.step (fun k => by rw [spec_l3Ends.l0]) ?_
    rw [show rd g 0 = g.getD 0 0 by simp [rd], ← ha, w64 (n := 200 + (a : Int)) (by omega) (by omega), wadd1 (by omega), rdOf_nat, hT.at n (by omega)]
    refine ev_pos (by omega) (ev_pos (by omega) (ev_pos (by omega) (ev_pos (by omega) ?_)))
    by_cases c : Gen g (n : Int)
    · rw [B_true c]
      rw [B_congr (q := ∀ m : Int, ((n + 1 : Nat) : Int) ≤ m → m < 200 + (a : Int) → Gen g m) ⟨fun h m h1 h2 => h m (by omega) h2, fun h m h1 h2 => by
        by_cases e : m = (n : Int)
        · rw [e]; exact c
        · exact h m (by omega) h2⟩]
      exact ev_pos rfl (ih (n + 1) (by omega))
    · rw [B_false c, B_false (fun h => c (h _ (by omega) (by omega)))]
      exact ev_neg (by simp) (Ev.now _)
theorem spec_l3Ends.ev (g : List Int) (hg0 : 0 < g.length) (hgl : g.length ≤ 1000000) (hg : ∀ x ∈ g, 1 ≤ x ∧ x ≤ 60) : Ev (fun k => spec_l3Ends.f k g) (B (∀ n, 200 ≤ n → Gen g n)) := by
  have hm : g.getD 0 0 ∈ g := getD_mem hg0
  have hr := hg _ hm
  obtain ⟨a, ha⟩ : ∃ a : Nat, (a : Int) = g.getD 0 0 := ⟨(g.getD 0 0).toNat, by omega⟩
  obtain ⟨T, ht, hT⟩ := spec_l3Table.ev g (fun x hx => (hg x hx).1) (fun x hx => by have := hg x hx; omega) (by omega) 260 (by omega)
  unfold spec_l3Ends.f
  refine Ev.bind ht ?_
  rw [B_congr (ends_iff hm hr.1), ← ha]
  exact spec_l3Ends.l0_ev g hg0 a ha (by omega) T hT a 200 (by omega)

/-! spec_IsSemigroup -/
theorem spec_IsSemigroup.ev (g : List Int) (hgl : g.length ≤ 1048576) : Ev (fun k => spec_IsSemigroup.f k g) (B (SG g)) := by
  unfold spec_IsSemigroup.f
  refine Ev.bind (spec_l3Gens.ev g (by omega)) ?_
  by_cases c1 : (∀ x ∈ g, 1 ≤ x ∧ x ≤ 60) ∧ 1 ≤ g.length ∧ g.length ≤ 20
  · rw [B_true c1]
    refine ev_pos rfl ?_
    by_cases c2 : g.length ≤ 12
    · refine ev_pos (by omega) ?_
      refine Ev.bind (spec_IsAscending.ev g (by omega)) ?_
      by_cases c3 : Asc g
      · rw [B_true c3]
        refine ev_pos rfl ?_
        refine Ev.bind (spec_GcdOfList.ev g (by omega)) ?_
        by_cases c4 : gcdLV g = 1
        · refine ev_pos c4 ?_
          obtain ⟨s, h1, h2, h3⟩ := spec_l3Minimal.ev g (fun x hx => by have := c1.1 x hx; omega) (by omega)
          obtain rfl := h1.unique (IsSort.self c3)
          refine Ev.bind h3 ?_
          refine Ev.bind (spec_l2Same.ev (minV s) s (by have := minK_length s s.length; unfold minV; omega)) ?_
          by_cases c5 : Min s
          · rw [B_true (minV_self.2 c5)]
            refine ev_pos rfl ?_
            rw [B_congr (q := ∀ n, 200 ≤ n → Gen s n) ⟨fun h => h.2.2.2.2.2, fun h => ⟨⟨c1.2.1, c2⟩, c1.1, c3, c4, c5, h⟩⟩]
            exact Ev.bind (spec_l3Ends.ev s (by omega) (by omega) c1.1) (Ev.now _)
          · rw [B_false (fun h => c5 (minV_self.1 h)), B_false (fun h => c5 h.2.2.2.2.1)]
            exact ev_neg (by simp) (Ev.now _)
        · rw [B_false (fun h => c4 h.2.2.2.1)]
          exact ev_neg c4 (Ev.now _)
      · rw [B_false c3, B_false (fun h => c3 h.2.2.1)]
        exact ev_neg (by simp) (Ev.now _)
    · rw [B_false (fun h => c2 h.1.2)]
      exact ev_neg (by omega) (Ev.now _)
  · rw [B_false c1, B_false (fun h => c1 ⟨h.2.1, h.1.1, by have := h.1; omega⟩)]
    exact ev_neg (by simp) (Ev.now _)

/-! spec_FromGens -/
theorem spec_FromGens.ev (l : List Int) (hl : l.length ≤ 1048576) : ∃ r, Ev (fun k => spec_FromGens.f k l) r ∧ GeV l r := by
  unfold spec_FromGens.f
  by_cases ho : GeOk l
  · obtain ⟨s, h1, h2, h3⟩ := spec_l3Minimal.ev l (fun x hx => by have := ho.1 x hx; omega) (by omega)
    have hm : (minV s).length ≤ 1048576 := by
      have := minK_length s s.length
      have e : (minV s).length ≤ s.length := this
      omega
    by_cases hs : SG (minV s)
    · refine ⟨(minV s, true), Ev.bind (spec_l3Gens.ev l (by omega)) ?_, .inl ⟨s, h1, ho, hs, rfl⟩⟩
      rw [B_true (show (∀ x ∈ l, 1 ≤ x ∧ x ≤ 60) ∧ 1 ≤ l.length ∧ l.length ≤ 20 from ho)]
      refine ev_pos rfl (Ev.bind h3 (Ev.bind (spec_IsSemigroup.ev _ hm) ?_))
      rw [B_true hs]
      exact ev_pos rfl (Ev.now _)
    · refine ⟨([], false), Ev.bind (spec_l3Gens.ev l (by omega)) ?_, .inr ⟨?_, rfl⟩⟩
      · rw [B_true (show (∀ x ∈ l, 1 ≤ x ∧ x ≤ 60) ∧ 1 ≤ l.length ∧ l.length ≤ 20 from ho)]
        refine ev_pos rfl (Ev.bind h3 (Ev.bind (spec_IsSemigroup.ev _ hm) ?_))
        rw [B_false hs]
        exact ev_neg (by simp) (Ev.now _)
      · rintro ⟨t, t1, t2, t3⟩
        rw [t1.unique h1] at t3
        exact hs t3
  · refine ⟨([], false), Ev.bind (spec_l3Gens.ev l (by omega)) ?_, .inr ⟨?_, rfl⟩⟩
    · rw [B_false (show ¬ ((∀ x ∈ l, 1 ≤ x ∧ x ≤ 60) ∧ 1 ≤ l.length ∧ l.length ≤ 20) from ho)]
      exact ev_neg (by simp) (Ev.now _)
    · rintro ⟨t, t1, t2, t3⟩
      exact ho t2
theorem spec_FromGens.sg (g : List Int) (h : SG g) : Ev (fun k => spec_FromGens.f k g) (g, true) := by
  obtain ⟨r, hr, hv⟩ := spec_FromGens.ev g (by have := h.1; omega)
  have ho : GeOk g := ⟨h.2.1, by have := h.1; omega, by have := h.1; omega⟩
  have := hv.of h ho (fun _ => Iff.rfl) (IsSort.self h.2.2.1)
  rwa [this] at hr

/-! spec_l3List -/
theorem spec_l3List.eq (s : List Int) (hs : s.length < 4611686018427387904) (i : Int) (hi : 0 ≤ i) (h : Int) : ∃ g i' h', spec_l3List.f s i h = some (g, i', h') ∧ g ∈ drawn8 ∧ 0 ≤ i' := by
  obtain ⟨x, i1, h1, e1, hx, hi1⟩ := spec_l1Below.eq s hs i hi h 8 (by omega)
  unfold spec_l3List.f
  rw [e1]
  simp only [Option.bind_some]
  unfold drawn8
  (repeat' split) <;> exact ⟨_, _, _, rfl, by simp, hi1⟩

/-! spec_l3Draw -/
theorem spec_l3Draw.list_ev (s : List Int) (hs : s.length < 4611686018427387904) (i : Int) (hi : 0 ≤ i) (h : Int) : ∃ g i' h', Ev (fun k => (spec_l3List.f s i h).bind fun bt => ((spec_FromGens.f k bt.1).bind fun bu => (some (bu.1, bt.2.1, bt.2.2)))) (g, i', h') ∧ SG g ∧ 0 ≤ i' := by
  obtain ⟨g, i1, h1, e1, hg, hi1⟩ := spec_l3List.eq s hs i hi h
  rw [e1]
  simp only [Option.bind_some]
  exact ⟨g, i1, h1, Ev.bind (spec_FromGens.sg g (drawn8_sg hg)) (Ev.now _), drawn8_sg hg, hi1⟩
theorem spec_l3Draw.l1_ev (s : List Int) (hs : s.length < 4611686018427387904) (q : Int) (n : Int) (hn : n ≤ 1000) (hq : ∀ i h, 0 ≤ i → ∃ g i' h', Ev (fun k => spec_l3Draw.l0 k (wrap64 (q + 1)) s i h) (g, i', h') ∧ SG g ∧ 0 ≤ i') : ∀ (d j : Nat) (l : List Int) (i h : Int), 0 ≤ i → 1 ≤ l.length → l.length ≤ j + 1 → j ≤ 1000 → n ≤ (j : Int) + d → ∃ g i' h', Ev (fun k => spec_l3Draw.l1 k q l n (j : Int) s i h) (g, i', h') ∧ SG g ∧ 0 ≤ i' := by
  intro d
  induction d with
  | zero =>
    intro j l i h h1 h2 h3 h4 h5
    obtain ⟨r, hr, hv⟩ := spec_FromGens.ev l (by omega)
    by_cases hb : r.2 = true
    · refine ⟨r.1, i, h, Ev.step (fun k => by rw [spec_l3Draw.l1]) ?_, hv.sg hb, h1⟩
      exact ev_neg (by omega) (Ev.bind hr (ev_pos hb (Ev.now _)))
    · obtain ⟨g, i', h', e, e2, e3⟩ := hq i h h1
      refine ⟨g, i', h', Ev.step (fun k => by rw [spec_l3Draw.l1]) ?_, e2, e3⟩
      exact ev_neg (by omega) (Ev.bind hr (ev_neg hb e))
  | succ d ih =>
    intro j l i h h1 h2 h3 h4 h5
    by_cases c : (j : Int) < n
    · obtain ⟨x, i1, y1, e1, hx, hi1⟩ := spec_l1Below.eq s hs i h1 h 12 (by omega)
      obtain ⟨g, i', h', e, e2, e3⟩ := ih (j + 1) (l ++ [wrap64 ((wrap64 ((rd l 0) + 1)) + x)]) i1 y1 hi1 (by simp) (by simp; omega) (by omega) (by omega)
      refine ⟨g, i', h', Ev.step (fun k => by rw [spec_l3Draw.l1]) ?_, e2, e3⟩
      rw [e1, wadd1 (j := j) (by omega)]
      exact ev_pos c (ev_pos (by omega) (ev_pos (by omega) e))
    · obtain ⟨r, hr, hv⟩ := spec_FromGens.ev l (by omega)
      by_cases hb : r.2 = true
      · refine ⟨r.1, i, h, Ev.step (fun k => by rw [spec_l3Draw.l1]) ?_, hv.sg hb, h1⟩
        exact ev_neg c (Ev.bind hr (ev_pos hb (Ev.now _)))
      · obtain ⟨g, i', h', e, e2, e3⟩ := hq i h h1
        refine ⟨g, i', h', Ev.step (fun k => by rw [spec_l3Draw.l1]) ?_, e2, e3⟩
        exact ev_neg c (Ev.bind hr (ev_neg hb e))
theorem spec_l3Draw.l0_ev (s : List Int) (hs : s.length < 4611686018427387904) : ∀ (d q : Nat), q + d = 4 → ∀ (i h : Int), 0 ≤ i → ∃ g i' h', Ev (fun k => spec_l3Draw.l0 k (q : Int) s i h) (g, i', h') ∧ SG g ∧ 0 ≤ i' := by
  intro d
  induction d with
  | zero =>
    intro q hq i h hi
    obtain ⟨g, i', h', e, e2, e3⟩ := spec_l3Draw.list_ev s hs i hi h
    refine ⟨g, i', h', Ev.step (fun k => by rw [spec_l3Draw.l0]) ?_, e2, e3⟩
    exact ev_neg (by omega) e
  | succ d ih =>
    intro q hq i h hi
    obtain ⟨x, i1, y1, e1, hx, hi1⟩ := spec_l1Below.eq s hs i hi h 8 (by omega)
    obtain ⟨y, i2, y2, e2, hy, hi2⟩ := spec_l1Below.eq s hs i1 hi1 y1 4 (by omega)
    have w1 : wrap64 (1 + y) = 1 + y := w64 (by omega) (by omega)
    obtain ⟨g, i', h', e, e4, e5⟩ := spec_l3Draw.l1_ev s hs (q : Int) (1 + y) (by omega) (fun i h hi => by
      have := ih (q + 1) (by omega) i h hi
      rwa [← wadd1 (j := q) (by omega)] at this) 5 0 [wrap64 (2 + x)] i2 y2 hi2 (by simp) (by simp) (by omega) (by omega)
    refine ⟨g, i', h', Ev.step (fun k => by rw [spec_l3Draw.l0]) ?_, e4, e5⟩
    rw [e1]
    simp only [Option.bind_some]
    rw [e2]
    simp only [Option.bind_some]
    rw [w1]
    exact ev_pos (by omega) e
theorem spec_l3Draw.ev (s : List Int) (hs : s.length < 4611686018427387904) (i : Int) (hi : 0 ≤ i) (h : Int) : ∃ g i' h', Ev (fun k => spec_l3Draw.f k s i h) (g, i', h') ∧ SG g ∧ 0 ≤ i' := by
  obtain ⟨b, i1, h1, e1, hi1⟩ := spec_l1Once.eq s hs i hi h 4 (by omega)
  unfold spec_l3Draw.f
  rw [e1]
  simp only [Option.bind_some]
  cases b with
  | true =>
    obtain ⟨g, i', h', e, e2, e3⟩ := spec_l3Draw.list_ev s hs i1 hi1 h1
    exact ⟨g, i', h', ev_pos rfl e, e2, e3⟩
  | false =>
    obtain ⟨g, i', h', e, e2, e3⟩ := spec_l3Draw.l0_ev s hs 4 0 (by omega) i1 h1 hi1
    exact ⟨g, i', h', ev_neg (by simp) e, e2, e3⟩

/-! spec_l1PickInt -/
theorem spec_l1PickInt.eq (s : List Int) (hs : s.length < 4611686018427387904) (i : Int) (hi : 0 ≤ i) (h : Int) (l : List Int) (hl : 1 ≤ l.length) : ∃ x i' h', spec_l1PickInt.f s i h l = some (x, i', h') ∧ x ∈ l ∧ 0 ≤ i' := by
  obtain ⟨x, i1, h1, e1, hx, hi1⟩ := spec_l1Below.eq s hs i hi h (l.length : Int) (by omega)
  unfold spec_l1PickInt.f
  rw [e1]
  simp only [Option.bind_some]
  rw [if_pos hx.1, if_pos hx.2]
  refine ⟨_, _, _, rfl, ?_, hi1⟩
  obtain ⟨m, rfl⟩ : ∃ m : Nat, x = (m : Int) := ⟨x.toNat, by omega⟩
  rw [rd_nat]
  exact getD_mem (by omega)

/-! spec_l3Bent -/
theorem spec_l3Bent.ev (s : List Int) (hs : s.length < 4611686018427387904) (i : Int) (hi : 0 ≤ i) (h : Int) : ∃ g i' h', Ev (fun k => spec_l3Bent.f k s i h) (g, i', h') ∧ g.length ≤ 100 ∧ 0 ≤ i' := by
  obtain ⟨g, i1, h1, e1, hg, hi1⟩ := spec_l3Draw.ev s hs i hi h
  have hgl := hg.1
  obtain ⟨x, i2, h2, e2, hx, hi2⟩ := spec_l1Below.eq s hs i1 hi1 h1 12 (by omega)
  unfold spec_l3Bent.f
  by_cases c0 : x = 0
  · obtain ⟨y, i3, h3, e3, hy, hi3⟩ := spec_l1PickInt.eq s hs i2 hi2 h2 [0, 61, 12, (-3), 60] (by simp)
    refine ⟨g ++ [y], i3, h3, Ev.bind e1 ?_, by simp; omega, hi3⟩
    simp only []
    rw [e2]
    simp only [Option.bind_some]
    rw [if_pos c0, e3]
    exact ev_pos (by omega) (Ev.now _)
  by_cases c1 : x = 1
  · refine ⟨g.drop 1, i2, h2, Ev.bind e1 ?_, by simp; omega, hi2⟩
    simp only []
    rw [e2]
    simp only [Option.bind_some]
    rw [if_neg c0, if_pos c1]
    exact ev_pos (by omega) (Ev.now _)
  by_cases c2 : x = 2
  · obtain ⟨y, i3, h3, e3, hy, hi3⟩ := spec_l1PickInt.eq s hs i2 hi2 h2 [0, 59, 4] (by simp)
    refine ⟨[y, 60], i3, h3, Ev.bind e1 ?_, by simp, hi3⟩
    simp only []
    rw [e2]
    simp only [Option.bind_some]
    rw [if_neg c0, if_neg c1, if_pos c2, e3]
    exact Ev.now _
  · refine ⟨g, i2, h2, Ev.bind e1 ?_, by omega, hi2⟩
    simp only []
    rw [e2]
    simp only [Option.bind_some]
    rw [if_neg c0, if_neg c1, if_neg c2]
    exact Ev.now _

/-! spec_l1New -/
theorem spec_l1New.l0_ev (l : List Int) (hl : l.length < 4611686018427387904) : ∀ (d j : Nat) (h : Int), j + d = l.length → ∃ h', Ev (fun k => spec_l1New.l0 k l h (j : Int)) (l, 0, h') := by
  intro d
  induction d with
  | zero =>
    intro j h g1
    refine ⟨h, Ev.step (fun k => by rw [spec_l1New.l0]) ?_⟩
    exact ev_neg (by omega) (Ev.now _)
  | succ d ih =>
    intro j h g1
    by_cases c : (j : Int) < 4000
    · obtain ⟨h', hh⟩ := ih (j + 1) (Go.bits .and .i64 (wrap64 ((wrap64 ((wrap64 (h * 131)) + (wrap64 (rd l (j : Int))))) + 7)) 1073741823) (by omega)
      refine ⟨h', Ev.step (fun k => by rw [spec_l1New.l0]) ?_⟩
      rw [wadd1 (j := j) (by omega)]
      exact ev_pos (by omega) (ev_pos c (ev_pos (by omega) hh))
    · refine ⟨h, Ev.step (fun k => by rw [spec_l1New.l0]) ?_⟩
      exact ev_pos (by omega) (ev_neg c (Ev.now _))
theorem spec_l1New.ev (l : List Int) (hl : l.length < 4611686018427387904) : ∃ h, Ev (fun k => spec_l1New.f k l) (l, 0, h) := by
  unfold spec_l1New.f
  exact spec_l1New.l0_ev l hl l.length 0 _ (by omega)

/-! spec_DrawSemigroupText -/
theorem spec_DrawSemigroupText.ev (l : List Int) (hl : l.length < 4611686018427387904) : ∃ g, Ev (fun k => spec_DrawSemigroupText.f k l) g ∧ g.length ≤ 100 := by
  obtain ⟨h, hh⟩ := spec_l1New.ev l hl
  obtain ⟨g, i1, h1, e1, hg, hi1⟩ := spec_l3Bent.ev l hl 0 (by omega) h
  refine ⟨g, ?_, hg⟩
  unfold spec_DrawSemigroupText.f
  exact Ev.bind hh (Ev.bind e1 (Ev.now _))

/-! impl_within -/
theorem impl_within.eq (a b c : Int) : impl_within.f a b c = some (decide (b ≤ a ∧ a ≤ c)) := by
  unfold impl_within.f
  by_cases h : b ≤ a <;> simp [h]

/-! impl_allWithin -/
theorem impl_allWithin.l0_ev (l : List Int) (lo hi : Int) (hl : l.length < 4611686018427387904) : ∀ (d j : Nat), j + d = l.length → Ev (fun k => impl_allWithin.l0 k lo hi l (l.length : Int) (j : Int)) (B (∀ x ∈ l.drop j, lo ≤ x ∧ x ≤ hi)) := by
  intro d
  induction d with
  | zero =>
    intro j h1
    refine Ev.step (fun k => by rw [impl_allWithin.l0]) ?_
    rw [B_true (by rw [List.drop_of_length_le (by omega)]; simp)]
    exact ev_neg (by omega) (Ev.now _)
  | succ d ih =>
    intro j h1
    have hj : j < l.length := by omega
    refine Ev.step (fun k => by rw [impl_allWithin.l0]) ?_
    rw [wadd1 (by omega), rd_nat, getD_get hj, List.drop_eq_getElem_cons hj, impl_within.eq]
    simp only [Option.bind_some]
    refine ev_pos (by omega) (ev_pos (by omega) (ev_pos (by omega) ?_))
    by_cases e : lo ≤ l[j] ∧ l[j] ≤ hi
    · refine ev_pos (decide_eq_true e) ?_
      rw [B_congr (q := ∀ x ∈ l.drop (j + 1), lo ≤ x ∧ x ≤ hi) (by simp only [List.forall_mem_cons, e.1, e.2, and_self, true_and])]
      exact ih (j + 1) (by omega)
    · refine ev_neg (by simpa using e) ?_
      rw [B_false (fun h => e (h _ List.mem_cons_self))]
      exact Ev.now _
theorem impl_allWithin.ev (l : List Int) (lo hi : Int) (hl : l.length < 4611686018427387904) : Ev (fun k => impl_allWithin.f k l lo hi) (B (∀ x ∈ l, lo ≤ x ∧ x ≤ hi)) := by
  unfold impl_allWithin.f
  exact impl_allWithin.l0_ev l lo hi hl l.length 0 (by omega)

/-! impl_IsAscending -/
theorem impl_IsAscending.l0_ev (l : List Int) (hl : l.length < 4611686018427387904) : ∀ (d j : Nat), l.length ≤ j + 1 + d → Ev (fun k => impl_IsAscending.l0 k l ((j + 1 : Nat) : Int)) (B (∀ i, j ≤ i → i + 1 < l.length → l.getD i 0 < l.getD (i + 1) 0)) := by
  intro d
  induction d with
  | zero =>
    intro j h1
    refine Ev.step (fun k => by rw [impl_IsAscending.l0]) ?_
    rw [B_true (fun i _ _ => by omega)]
    exact ev_neg (by omega) (Ev.now _)
  | succ d ih =>
    intro j h1
    refine Ev.step (fun k => by rw [impl_IsAscending.l0]) ?_
    by_cases hj : j + 1 < l.length
    · have e1 : wrap64 (((j + 1 : Nat) : Int) - 1) = (j : Int) := by rw [w64 (by omega) (by omega)]; omega
      rw [e1, wadd1 (by omega), rd_nat, rd_nat]
      refine ev_pos (by omega) (ev_pos (by omega) (ev_pos (by omega) (ev_pos (by omega) ?_)))
      by_cases e : l.getD (j + 1) 0 ≤ l.getD j 0
      · refine ev_pos e ?_
        rw [B_false (fun h => by have := h j (by omega) hj; omega)]
        exact Ev.now _
      · refine ev_neg e ?_
        rw [B_congr (q := ∀ i, j + 1 ≤ i → i + 1 < l.length → l.getD i 0 < l.getD (i + 1) 0) ⟨fun h i hi => h i (by omega), fun h i hi h2 => by
          by_cases e3 : i = j
          · subst e3; omega
          · exact h i (by omega) h2⟩]
        exact ih (j + 1) (by omega)
    · rw [B_true (fun i _ _ => by omega)]
      exact ev_neg (by omega) (Ev.now _)
theorem impl_IsAscending.ev (l : List Int) (hl : l.length < 4611686018427387904) : Ev (fun k => impl_IsAscending.f k l) (B (Asc l)) := by
  unfold impl_IsAscending.f
  rw [B_congr (p := Asc l) (q := ∀ i, 0 ≤ i → i + 1 < l.length → l.getD i 0 < l.getD (i + 1) 0) ⟨fun h i _ => h i, fun h i => h i (by omega)⟩]
  exact impl_IsAscending.l0_ev l hl l.length 0 (by omega)

/-! impl_GcdOf -/
theorem impl_GcdOf.l0_ev : ∀ (m n : Nat), Ev (fun k => impl_GcdOf.l0 k (m : Int) (n : Int)) ((Nat.gcd m n : Nat) : Int) := by
  intro m
  induction m using Nat.strongRecOn with
  | _ m ih =>
    intro n
    refine Ev.step (fun k => by rw [impl_GcdOf.l0]) ?_
    by_cases e : m = 0
    · subst e
      rw [Nat.gcd_zero_left]
      exact ev_pos (by omega) (Ev.now _)
    · refine ev_neg (by omega) ?_
      rw [← Int.ofNat_tmod, Nat.gcd_rec m n]
      exact ih (n % m) (Nat.mod_lt _ (by omega)) m
theorem impl_GcdOf.ev (a b : Int) : Ev (fun k => impl_GcdOf.f k a b) (gcdV a b) := by
  unfold impl_GcdOf.f
  refine Ev.bind (impl_allWithin.ev [a, b] (-1000000) 1000000 (by simp)) ?_
  by_cases h : (-1000000 ≤ a ∧ a ≤ 1000000) ∧ (-1000000 ≤ b ∧ b ≤ 1000000)
  · rw [B_true (by simpa using h), gcdV, if_pos h, mx_abs h.1.1 h.1.2, mx_abs h.2.1 h.2.2]
    exact ev_pos rfl (impl_GcdOf.l0_ev _ _)
  · rw [B_false (by simpa using h), gcdV, if_neg h]
    exact ev_neg (by simp) (Ev.now _)

/-! impl_GcdOfList -/
theorem impl_GcdOfList.l0_ev (l : List Int) (hl : l.length < 4611686018427387904) : ∀ (d j : Nat) (g : Int), j + d = l.length → Ev (fun k => impl_GcdOfList.l0 k g l (l.length : Int) (j : Int)) ((l.drop j).foldl gcdV g) := by
  intro d
  induction d with
  | zero =>
    intro j g h1
    refine Ev.step (fun k => by rw [impl_GcdOfList.l0]) ?_
    rw [List.drop_of_length_le (by omega)]
    exact ev_neg (by omega) (Ev.now _)
  | succ d ih =>
    intro j g h1
    have hj : j < l.length := by omega
    refine Ev.step (fun k => by rw [impl_GcdOfList.l0]) ?_
    rw [wadd1 (by omega), rd_nat, getD_get hj, List.drop_eq_getElem_cons hj, List.foldl_cons]
    exact ev_pos (by omega) (ev_pos (by omega) (ev_pos (by omega) (Ev.bind (impl_GcdOf.ev _ _) (ih (j + 1) _ (by omega)))))
theorem impl_GcdOfList.ev (l : List Int) (hl : l.length < 4611686018427387904) : Ev (fun k => impl_GcdOfList.f k l) (gcdLV l) := by
  unfold impl_GcdOfList.f gcdLV
  exact impl_GcdOfList.l0_ev l hl l.length 0 0 (by omega)

/-! impl_leasts -/
theorem impl_leasts.l3_ev (g : List Int) (a : Nat) (ha : 1 ≤ a) (ha' : a ≤ 60) (hg : ∀ x ∈ g, 1 ≤ x ∧ x ≤ 60) (hgl : g.length ≤ 1000) (r : Nat) (hr : r < a) (n : Int) (hn : 0 ≤ n) (c : Int)
    (cont : ∀ L ch, LInv g a L → (ch = true → costL L < c) → (ch = false → costL L ≤ c ∧ ∀ r', r' < r + 1 → Relaxed g a L r') → ∃ out, Ev (fun k => impl_leasts.l2 k g (a : Int) L ch (a : Int) ((r + 1 : Nat) : Int)) out ∧ LGood g a out) :
    ∀ (d j : Nat) (L : List Int) (ch : Bool), j + d = g.length → LInv g a L → L.getD r 0 = n → (ch = true → costL L < c) → (ch = false → costL L ≤ c ∧ (∀ r', r' < r → Relaxed g a L r') ∧ RelaxedTo g a L r j) →
      ∃ out, Ev (fun k => impl_leasts.l3 k g (a : Int) L ch (r : Int) n (a : Int) (r : Int) g (g.length : Int) (j : Int)) out ∧ LGood g a out := by
  intro d
  induction d with
  | zero =>
    intro j L ch h1 h2 h3 h4 h5
    obtain ⟨out, ho, hg'⟩ := cont L ch h2 h4 (fun e => ⟨(h5 e).1, fun r' hr' => by
      by_cases e2 : r' = r
      · subst e2
        intro _ x hx
        have := (h5 e).2.2
        unfold RelaxedTo at this
        rw [List.take_of_length_le (by omega)] at this
        exact this x hx
      · exact (h5 e).2.1 r' (by omega)⟩)
    refine ⟨out, Ev.step (fun k => by rw [impl_leasts.l3]) ?_, hg'⟩
    refine ev_neg (by omega) ?_
    rw [wadd1 (by omega)]
    exact ho
  | succ d ih =>
    intro j L ch h1 h2 h3 h4 h5
    have hj : j < g.length := by omega
    have hxm := List.getElem_mem hj
    have hx := hg _ hxm
    have hb := h2.bound ha' hr
    have hL := h2.1
    have m0 := Int.emod_nonneg ((r : Int) + g[j]) (show (a : Int) ≠ 0 by omega)
    have m1 := Int.emod_lt_of_pos ((r : Int) + g[j]) (show (0 : Int) < (a : Int) by omega)
    obtain ⟨t, ht⟩ : ∃ t : Nat, ((r : Int) + g[j]) % (a : Int) = (t : Int) := ⟨(((r : Int) + g[j]) % (a : Int)).toNat, by omega⟩
    have e1 : wrap64 ((r : Int) + g[j]) = (r : Int) + g[j] := w64 (by omega) (by omega)
    have e2 : Int.tmod ((r : Int) + g[j]) (a : Int) = (t : Int) := by rw [Int.tmod_eq_emod_of_nonneg (by omega), ht]
    have e3 : wrap64 (n + g[j]) = n + g[j] := w64 (by omega) (by omega)
    have hta : t < a := by omega
    by_cases hl : L.getD t 0 < 0 ∨ n + g[j] < L.getD t 0
    · obtain ⟨s1, s2, _, s4⟩ := h2.step ha ha' hr (by omega) hxm hx.1 hx.2 ht (by rw [h3]; exact hl)
      rw [h3] at s1 s2
      obtain ⟨out, ho, hg'⟩ := ih (j + 1) (L.set t (n + g[j])) true (by omega) s1 (by rw [getD_set, if_neg (fun hh => s4 hh.1)]; exact h3) (fun _ => by
        cases ch with
        | true => have := h4 rfl; omega
        | false => have := (h5 rfl).1; omega) (fun e => by cases e)
      refine ⟨out, Ev.step (fun k => by rw [impl_leasts.l3]) ?_, hg'⟩
      rw [wadd1 (by omega), rd_nat, getD_get hj, e1, e2, e3, rd_nat, Int.toNat_natCast]
      refine ev_pos (by omega) (ev_pos (by omega) (ev_pos (by omega) (ev_neg (by omega) (ev_pos (by omega) (ev_pos (by omega) ?_)))))
      by_cases hn' : L.getD t 0 < 0
      · exact ev_pos hn' ho
      · exact ev_neg hn' (ev_pos (by omega) ho)
    · obtain ⟨out, ho, hg'⟩ := ih (j + 1) L ch (by omega) h2 h3 h4 (fun e => ⟨(h5 e).1, (h5 e).2.1, fun x hx' => by
        rw [List.take_succ_eq_append_getElem hj] at hx'
        rcases List.mem_append.1 hx' with hx' | hx'
        · exact (h5 e).2.2 x hx'
        · obtain rfl := List.mem_singleton.1 hx'
          unfold RelaxedAt
          rw [ht, Int.toNat_natCast]
          omega⟩)
      refine ⟨out, Ev.step (fun k => by rw [impl_leasts.l3]) ?_, hg'⟩
      rw [wadd1 (by omega), rd_nat, getD_get hj, e1, e2, e3, rd_nat, Int.toNat_natCast]
      exact ev_pos (by omega) (ev_pos (by omega) (ev_pos (by omega) (ev_neg (by omega) (ev_pos (by omega) (ev_pos (by omega) (ev_neg (by omega) (ev_neg (by omega) ho)))))))
theorem impl_leasts.l2_ev (g : List Int) (a : Nat) (ha : 1 ≤ a) (ha' : a ≤ 60) (hg : ∀ x ∈ g, 1 ≤ x ∧ x ≤ 60) (hgl : g.length ≤ 1000) (c : Int)
    (cont : ∀ L, LInv g a L → costL L < c → ∃ out, Ev (fun k => impl_leasts.l1 k g (a : Int) L true) out ∧ LGood g a out) :
    ∀ (d r : Nat) (L : List Int) (ch : Bool), r + d = a → LInv g a L → (ch = true → costL L < c) → (ch = false → costL L ≤ c ∧ ∀ r', r' < r → Relaxed g a L r') →
      ∃ out, Ev (fun k => impl_leasts.l2 k g (a : Int) L ch (a : Int) (r : Int)) out ∧ LGood g a out := by
  intro d
  induction d with
  | zero =>
    intro r L ch h1 h2 h3 h4
    cases ch with
    | true =>
      obtain ⟨out, ho, hg'⟩ := cont L h2 (h3 rfl)
      refine ⟨out, Ev.step (fun k => by rw [impl_leasts.l2]) ?_, hg'⟩
      exact ev_neg (by omega) ho
    | false =>
      refine ⟨L, Ev.step (fun k => by rw [impl_leasts.l2]) ?_, h2, fun r' hr' => (h4 rfl).2 r' (by omega)⟩
      refine ev_neg (by omega) ?_
      refine Ev.step (fun k => by rw [impl_leasts.l1]) ?_
      exact ev_neg (by simp) (Ev.now _)
  | succ d ih =>
    intro r L ch h1 h2 h3 h4
    have hL := h2.1
    by_cases hneg : L.getD r 0 < 0
    · obtain ⟨out, ho, hg'⟩ := ih (r + 1) L ch (by omega) h2 h3 (fun e => ⟨(h4 e).1, fun r' hr' => by
        by_cases e2 : r' = r
        · subst e2; intro h0; omega
        · exact (h4 e).2 r' (by omega)⟩)
      refine ⟨out, Ev.step (fun k => by rw [impl_leasts.l2]) ?_, hg'⟩
      rw [rd_nat, wadd1 (by omega)]
      exact ev_pos (by omega) (ev_pos (by omega) (ev_pos (by omega) (ev_pos hneg ho)))
    · obtain ⟨out, ho, hg'⟩ := impl_leasts.l3_ev g a ha ha' hg hgl r (by omega) (L.getD r 0) (by omega) c (fun L' ch' i1 i2 i3 => ih (r + 1) L' ch' (by omega) i1 i2 i3) g.length 0 L ch (by omega) h2 rfl h3 (fun e => ⟨(h4 e).1, (h4 e).2, fun x hx => by simp at hx⟩)
      refine ⟨out, Ev.step (fun k => by rw [impl_leasts.l2]) ?_, hg'⟩
      rw [rd_nat]
      exact ev_pos (by omega) (ev_pos (by omega) (ev_pos (by omega) (ev_neg hneg ho)))
theorem impl_leasts.l1_ev (g : List Int) (a : Nat) (ha : 1 ≤ a) (ha' : a ≤ 60) (hg : ∀ x ∈ g, 1 ≤ x ∧ x ≤ 60) (hgl : g.length ≤ 1000) :
    ∀ (c : Nat) (L : List Int), LInv g a L → costL L ≤ c → ∃ out, Ev (fun k => impl_leasts.l1 k g (a : Int) L true) out ∧ LGood g a out := by
  intro c
  induction c with
  | zero =>
    intro L h1 h2
    have hL := h1.1
    obtain ⟨out, ho, hg'⟩ := impl_leasts.l2_ev g a ha ha' hg hgl 0 (fun L' _ h => by have := costL_nonneg L'; omega) a 0 L false (by omega) h1 (fun e => by cases e) (fun _ => ⟨by omega, fun r' hr' => by omega⟩)
    refine ⟨out, Ev.step (fun k => by rw [impl_leasts.l1]) ?_, hg'⟩
    refine ev_pos rfl ?_
    rw [hL]; exact ho
  | succ c ih =>
    intro L h1 h2
    have hL := h1.1
    obtain ⟨out, ho, hg'⟩ := impl_leasts.l2_ev g a ha ha' hg hgl ((c : Int) + 1) (fun L' i1 i2 => ih L' i1 (by omega)) a 0 L false (by omega) h1 (fun e => by cases e) (fun _ => ⟨by omega, fun r' hr' => by omega⟩)
    refine ⟨out, Ev.step (fun k => by rw [impl_leasts.l1]) ?_, hg'⟩
    refine ev_pos rfl ?_
    rw [hL]; exact ho
theorem impl_leasts.l0_ev (g : List Int) (a : Nat) (ha : 1 ≤ a) (ha' : a ≤ 60) (hg : ∀ x ∈ g, 1 ≤ x ∧ x ≤ 60) (hgl : g.length ≤ 1000) :
    ∀ (d j : Nat) (T : List Int), j + d = a → T.length = a → (∀ i, i < j → T.getD i 0 = -1) → ∃ out, Ev (fun k => impl_leasts.l0 k g (a : Int) T (a : Int) (j : Int)) out ∧ LGood g a out := by
  intro d
  induction d with
  | zero =>
    intro j T h1 h2 h3
    have e : T = List.replicate a (-1) := by
      apply List.ext_getElem (by simp [h2])
      intro i i1 i2
      have := h3 i (by omega)
      rw [getD_get i1] at this
      rw [this]; simp
    obtain ⟨out, ho, hg'⟩ := impl_leasts.l1_ev g a ha ha' hg hgl (costL ((List.replicate a (-1 : Int)).set 0 0)).toNat _ (LInv.init ha) (by have := costL_nonneg ((List.replicate a (-1 : Int)).set 0 0); omega)
    refine ⟨out, Ev.step (fun k => by rw [impl_leasts.l0]) ?_, hg'⟩
    refine ev_neg (by omega) (ev_pos (by omega) ?_)
    rw [e]; exact ho
  | succ d ih =>
    intro j T h1 h2 h3
    obtain ⟨out, ho, hg'⟩ := ih (j + 1) (T.set j (-1)) (by omega) (by simp [h2]) (fun i hi => by
      rw [getD_set]
      by_cases e : j = i ∧ i < T.length
      · rw [if_pos e]
      · rw [if_neg e]; exact h3 i (by omega))
    refine ⟨out, Ev.step (fun k => by rw [impl_leasts.l0]) ?_, hg'⟩
    refine ev_pos (by omega) (ev_pos (by omega) (ev_pos (by omega) ?_))
    rw [wadd1 (by omega), Int.toNat_natCast]
    exact ho
theorem impl_leasts.ev (g : List Int) (a : Nat) (ha : 1 ≤ a) (ha' : a ≤ 60) (hg : ∀ x ∈ g, 1 ≤ x ∧ x ≤ 60) (hgl : g.length ≤ 1000) : ∃ L, Ev (fun k => impl_leasts.f k g (a : Int)) L ∧ IsLeasts g a L := by
  obtain ⟨out, ho, hg'⟩ := impl_leasts.l0_ev g a ha ha' hg hgl a 0 (List.replicate a 0) (by omega) (by simp) (fun i hi => by omega)
  refine ⟨out, ?_, hg'.isLeasts ha ha' hg⟩
  unfold impl_leasts.f
  refine ev_pos (by omega) (ev_pos (by omega) ?_)
  simp only [Option.bind_some, Int.toNat_natCast, List.length_replicate]
  exact ho

/-! impl_usable -/
theorem impl_usable.ev (l : List Int) (hl : l.length < 4611686018427387904) : Ev (fun k => impl_usable.f k l) (B ((∀ x ∈ l, 1 ≤ x ∧ x ≤ 60) ∧ 1 ≤ l.length ∧ l.length ≤ 20)) := by
  unfold impl_usable.f
  simp only [impl_within.eq, Option.bind_some]
  by_cases c : 1 ≤ (l.length : Int) ∧ (l.length : Int) ≤ 20
  · refine ev_pos (decide_eq_true c) ?_
    rw [B_congr (q := ∀ x ∈ l, 1 ≤ x ∧ x ≤ 60) ⟨fun h => h.1, fun h => ⟨h, by omega⟩⟩]
    exact Ev.bind (impl_allWithin.ev l 1 60 hl) (Ev.now _)
  · refine ev_neg (by simpa using c) ?_
    rw [B_false (fun h => c (by omega))]
    exact Ev.now _

/-! impl_Generates -/
theorem impl_Generates.ev (l : List Int) (n : Int) (hl : l.length < 4611686018427387904) : Ev (fun k => impl_Generates.f k l n) (genV l n) := by
  unfold impl_Generates.f genV
  refine Ev.bind (impl_usable.ev l hl) ?_
  simp only [impl_within.eq, Option.bind_some]
  by_cases c : (∀ x ∈ l, 1 ≤ x ∧ x ≤ 60) ∧ 1 ≤ l.length ∧ l.length ≤ 20
  · rw [B_true c]
    refine ev_pos rfl ?_
    by_cases c2 : 0 ≤ n ∧ n ≤ 1000000
    · refine ev_pos (decide_eq_true c2) (ev_pos (by omega) ?_)
      have hm : l.getD 0 0 ∈ l := getD_mem (by omega)
      have hr := c.1 _ hm
      obtain ⟨a, ha⟩ : ∃ a : Nat, (a : Int) = l.getD 0 0 := ⟨(l.getD 0 0).toNat, by omega⟩
      have e0 : Box (rd l 0 = (a : Int)) := ⟨by rw [ha]; simp [rd]⟩
      rw [← ha] at hm hr
      obtain ⟨L, hL, hI⟩ := impl_leasts.ev l a (by omega) (by omega) c.1 (by omega)
      have hLl := hI.1
      have m0 := Int.emod_nonneg n (show (a : Int) ≠ 0 by omega)
      have m1 := Int.emod_lt_of_pos n (show (0 : Int) < (a : Int) by omega)
      have e1 : Box (Int.tmod n (a : Int) = n % (a : Int)) := ⟨Int.tmod_eq_emod_of_nonneg c2.1⟩
      have e2 : Box (rd L (n % (a : Int)) = L.getD (n % (a : Int)).toNat 0) := ⟨rfl⟩
      have hgen := hI.gen hm (by omega) n
      rw [e0.out]
      refine Ev.bind hL ?_
      rw [e1.out, e2.out]
      refine ev_neg (by omega) (ev_pos (by omega) (ev_pos (by omega) ?_))
      by_cases c3 : L.getD (n % (a : Int)).toNat 0 ≥ 0
      · refine ev_pos c3 ?_
        rw [B_dec, B_congr (q := ((∀ x ∈ l, 1 ≤ x ∧ x ≤ 60) ∧ 1 ≤ l.length ∧ l.length ≤ 20) ∧ (0 ≤ n ∧ n ≤ 1000000) ∧ Gen l n) ⟨fun h => ⟨c, c2, hgen.2 ⟨c3, h⟩⟩, fun h => (hgen.1 h.2.2).2⟩]
        exact Ev.now _
      · refine ev_neg c3 ?_
        rw [B_false (fun h => c3 (hgen.1 h.2.2).1)]
        exact Ev.now _
    · refine ev_neg (by simpa using c2) ?_
      rw [B_false (fun h => c2 h.2.1)]
      exact Ev.now _
  · rw [B_false c, B_false (fun h => c h.1)]
    exact ev_neg (by simp) (Ev.now _)

/-! impl_IsSemigroup -/
theorem impl_IsSemigroup.l1_ev (g L : List Int) (a : Nat) (hg0 : 0 < g.length) (ha : (a : Int) = g.getD 0 0) (ha' : a ≤ 60) (hL : L.length = a) (hb : ∀ r, r < a → -10 ≤ L.getD r 0 ∧ L.getD r 0 ≤ 100000) : ∀ (d j : Nat), j + d = a → Ev (fun k => impl_IsSemigroup.l1 k g L (a : Int) (j : Int)) (B (∀ r, j ≤ r → r < a → L.getD r 0 - (a : Int) < 200)) := by
  intro d
  induction d with
  | zero =>
    intro j h1
    refine Ev.step (fun k => by rw [impl_IsSemigroup.l1]) ?_
    rw [B_true (fun r _ _ => by omega)]
    exact ev_neg (by omega) (Ev.now _)
  | succ d ih =>
    intro j h1
    have hj := hb j (by omega)
    have e0 : Box (rd g 0 = (a : Int)) := ⟨by rw [ha]; simp [rd]⟩
    refine Ev.step (fun k => by rw [impl_IsSemigroup.l1]) ?_
    rw [e0.out, rd_nat, wadd1 (by omega), w64 (n := L.getD j 0 - (a : Int)) (by omega) (by omega)]
    refine ev_pos (by omega) (ev_pos (by omega) (ev_pos (by omega) (ev_pos (by omega) ?_)))
    by_cases c : L.getD j 0 - (a : Int) ≥ 200
    · rw [B_false (fun h => by have := h j (by omega) (by omega); omega)]
      exact ev_pos c (Ev.now _)
    · rw [B_congr (q := ∀ r, j + 1 ≤ r → r < a → L.getD r 0 - (a : Int) < 200) ⟨fun h r h1 h2 => h r (by omega) h2, fun h r h1 h2 => by
        by_cases e : r = j
        · subst e; omega
        · exact h r (by omega) h2⟩]
      exact ev_neg c (ih (j + 1) (by omega))
theorem impl_IsSemigroup.l0_ev (g : List Int) (c1 : 1 ≤ g.length ∧ g.length ≤ 12) (c2 : ∀ x ∈ g, 1 ≤ x ∧ x ≤ 60) (c3 : Asc g) (c4 : gcdLV g = 1) : ∀ (d j : Nat), j + d = g.length → 1 ≤ j → (∀ i, 1 ≤ i → i < j → ¬ Gen (g.take i) (g.getD i 0)) → Ev (fun k => impl_IsSemigroup.l0 k g (j : Int)) (B (SG g)) := by
  intro d
  induction d with
  | zero =>
    intro j h1 h2 h3
    have hm : g.getD 0 0 ∈ g := getD_mem (by omega)
    have hr := c2 _ hm
    obtain ⟨a, ha⟩ : ∃ a : Nat, (a : Int) = g.getD 0 0 := ⟨(g.getD 0 0).toNat, by omega⟩
    have e0 : Box (rd g 0 = (a : Int)) := ⟨by rw [ha]; simp [rd]⟩
    rw [← ha] at hm hr
    obtain ⟨L, hL, hI⟩ := impl_leasts.ev g a (by omega) (by omega) c2 (by omega)
    have hend := hI.ends_leasts hm (by omega) c2 c4
    have hLl := hI.1
    refine Ev.step (fun k => by rw [impl_IsSemigroup.l0]) ?_
    rw [e0.out]
    refine ev_neg (by omega) (ev_pos (by omega) (Ev.bind hL ?_))
    have e1 : Box ((L.length : Int) = (a : Int)) := ⟨by rw [hI.1]⟩
    rw [e1.out, B_congr (p := SG g) (q := ∀ r, 0 ≤ r → r < a → L.getD r 0 - (a : Int) < 200) ⟨fun h r _ hr' => hend.2 h.2.2.2.2.2 r hr', fun h => ⟨c1, c2, c3, c4, fun i i1 i2 => h3 i i1 (by omega), hend.1 (fun r hr' => h r (by omega) hr')⟩⟩]
    refine impl_IsSemigroup.l1_ev g L a (by omega) ha (by omega) hI.1 (fun r hr' => ?_) a 0 (by omega)
    have full : 0 ≤ L.getD r 0 := by
      apply Classical.byContradiction
      intro hc
      obtain ⟨m, hm', em⟩ := Cls.all (g := g) (a := (a : Int)) (by omega) c2 (r : Int) (by rw [c4]; exact Int.one_dvd _)
      refine (hI.2 r hr').1 (by omega) m hm' ?_
      rw [em, Int.emod_eq_of_lt (by omega) (by omega)]
    have := ((hI.2 r hr').2 full).2
    omega
  | succ d ih =>
    intro j h1 h2 h3
    have hj : j < g.length := by omega
    have hx := c2 _ (getD_mem hj)
    refine Ev.step (fun k => by rw [impl_IsSemigroup.l0]) ?_
    rw [wadd1 (by omega), rd_nat, Int.toNat_natCast]
    refine ev_pos (by omega) (ev_pos (by omega) (ev_pos (by omega) (Ev.bind (impl_Generates.ev _ _ (by simp; omega)) ?_)))
    have hlen : (g.take j).length = j := by simp; omega
    have hgv : genV (g.take j) (g.getD j 0) = B (Gen (g.take j) (g.getD j 0)) := B_congr ⟨fun h => h.2.2, fun h => ⟨⟨fun x hx' => c2 x (List.take_subset _ _ hx'), by omega, by omega⟩, by omega, h⟩⟩
    rw [hgv]
    by_cases c : Gen (g.take j) (g.getD j 0)
    · rw [B_true c, B_false (fun h => h.2.2.2.2.1 j h2 hj c)]
      exact ev_pos rfl (Ev.now _)
    · rw [B_false c]
      refine ev_neg (by simp) (ih (j + 1) (by omega) (by omega) (fun i i1 i2 => ?_))
      by_cases e : i = j
      · subst e; exact c
      · exact h3 i i1 (by omega)
theorem impl_IsSemigroup.ev (g : List Int) (hgl : g.length ≤ 1048576) : Ev (fun k => impl_IsSemigroup.f k g) (B (SG g)) := by
  have out : Box (¬ SG g → Ev (fun k => impl_IsSemigroup.j0 k g true) (B (SG g))) := ⟨fun h => by
    rw [B_false h]
    refine Ev.step (fun k => by rw [impl_IsSemigroup.j0]) ?_
    exact ev_pos rfl (Ev.now _)⟩
  unfold impl_IsSemigroup.f
  simp only [impl_within.eq, Option.bind_some]
  by_cases c1 : 1 ≤ (g.length : Int) ∧ (g.length : Int) ≤ 12
  · refine ev_pos (decide_eq_true c1) ?_
    refine Ev.bind (impl_allWithin.ev g 1 60 (by omega)) ?_
    by_cases c2 : ∀ x ∈ g, 1 ≤ x ∧ x ≤ 60
    · rw [B_true c2]
      refine ev_pos rfl (Ev.bind (impl_IsAscending.ev g (by omega)) ?_)
      by_cases c3 : Asc g
      · rw [B_true c3]
        refine ev_pos rfl (Ev.bind (impl_GcdOfList.ev g (by omega)) ?_)
        by_cases c4 : gcdLV g = 1
        · refine Ev.step (fun k => by rw [impl_IsSemigroup.j0]) ?_
          refine ev_neg (by simp [c4]) ?_
          exact impl_IsSemigroup.l0_ev g (by omega) c2 c3 c4 (g.length - 1) 1 (by omega) (by omega) (fun i i1 i2 => by omega)
        · rw [show (gcdLV g != 1) = true by simp [c4]]
          exact out.out (fun h => c4 h.2.2.2.1)
      · rw [B_false c3]
        exact ev_neg (by simp) (out.out (fun h => c3 h.2.2.1))
    · rw [B_false c2]
      exact ev_neg (by simp) (out.out (fun h => c2 h.2.1))
  · exact ev_neg (by simpa using c1) (out.out (fun h => c1 (by have := h.1; omega)))

/-! impl_FormatInt -/
theorem impl_FormatInt.eq (x : Int) (h : -9223372036854775808 ≤ x) (h' : x ≤ 9223372036854775807) : impl_FormatInt.f x = some (itoaB x) := by
  have e : impl_FormatInt.f x = (if -9223372036854775808 ≤ x ∧ x ≤ 9223372036854775807 then some (itoaB x) else none).bind fun t => some t := rfl
  rw [e, if_pos ⟨h, h'⟩]
  rfl

/-! impl_Join -/
theorem impl_Join.eqB (l : List ByteArray) (b : ByteArray) (hl : l.length ≤ 1048576) (hb : b.size ≤ 1048576) (hs : Lib.lens (l.map (·.data.toList)) ≤ 1000000000) : impl_Join.f l b = some ⟨(Lib.join (l.map (·.data.toList)) b.data.toList).toArray⟩ := by
  have hk := joinK_length l b l.length
  unfold joinK at hk
  rw [List.take_length] at hk
  have hm : b.size * l.length ≤ 1048576 * 1048576 := Nat.mul_le_mul hb hl
  unfold impl_Join.f strings_Join.f
  rw [if_pos ⟨by omega, by omega⟩]
  rfl
theorem impl_Join.eq (l : List ByteArray) (b : ByteArray) (hl : l.length ≤ 1048576) (hb : b.size ≤ 1048576) (hs : Lib.lens (l.map (·.data.toList)) ≤ 1048576) : impl_Join.f l b = some ⟨(Lib.join (l.map (·.data.toList)) b.data.toList).toArray⟩ := impl_Join.eqB l b hl hb (by omega)

/-! impl_ListText -/
theorem impl_ListText.l0_ev (l : List Int) (hl : l.length ≤ 1048576) (hw : ∀ x ∈ l, -9223372036854775808 ≤ x ∧ x ≤ 9223372036854775807) : ∀ (d j : Nat), j + d = l.length → Ev (fun k => impl_ListText.l0 k ((l.take j).map itoaB) l (l.length : Int) (j : Int)) ⟨(Lib.join ((l.map itoaB).map (·.data.toList)) [44]).toArray⟩ := by
  intro d
  induction d with
  | zero =>
    intro j h1
    obtain rfl : j = l.length := by omega
    refine Ev.step (fun k => by rw [impl_ListText.l0]) ?_
    refine ev_neg (by omega) ?_
    rw [List.take_length]
    have hz := lens_texts l hw
    rw [impl_Join.eqB (l.map itoaB) ⟨#[44]⟩ (by simpa using hl) (by decide) (by omega)]
    simp only [Option.bind_some]
    exact Ev.now _
  | succ d ih =>
    intro j h1
    have hj : j < l.length := by omega
    have hn := ih (j + 1) (by omega)
    have hm := hw _ (getD_mem hj)
    refine Ev.step (fun k => by rw [impl_ListText.l0]) ?_
    rw [wadd1 (j := j) (by omega), rd_nat, impl_FormatInt.eq _ hm.1 hm.2]
    simp only [Option.bind_some]
    refine ev_pos (by omega) (ev_pos (by omega) (ev_pos (by omega) (ev_pos (by simp; omega) ?_)))
    rw [List.take_succ_eq_append_getElem hj, List.map_append, List.map_cons, List.map_nil, ← getD_get hj] at hn
    exact hn
theorem impl_ListText.ev (l : List Int) (hl : l.length ≤ 1048576) (hw : ∀ x ∈ l, -9223372036854775808 ≤ x ∧ x ≤ 9223372036854775807) : Ev (fun k => impl_ListText.f k l) (listB l) := by
  unfold impl_ListText.f listB
  by_cases e : l = []
  · rw [if_pos e]
    exact ev_pos (by rw [e]; rfl) (Ev.now _)
  · rw [if_neg e]
    refine ev_neg (by have := List.length_pos_iff.2 e; omega) ?_
    exact impl_ListText.l0_ev l hl hw l.length 0 (by omega)

/-! impl_SemigroupText -/
theorem impl_SemigroupText.ev (g : List Int) (hg : g.length ≤ 1048576) : Ev (fun k => impl_SemigroupText.f k g) (sgB g) := by
  unfold impl_SemigroupText.f sgB
  refine Ev.bind (impl_IsSemigroup.ev g hg) ?_
  by_cases c : B (SG g) = true
  · have h : SG g := B_iff.1 c
    have hz := listB_size g h.range
    have h3 : (⟨#[60]⟩ : ByteArray).size = 1 := rfl
    rw [if_pos c]
    refine ev_pos c (Ev.bind (impl_ListText.ev g hg h.range) ?_)
    exact ev_pos (by omega) (ev_pos (by rw [ByteArray.size_append]; omega) (Ev.now _))
  · rw [if_neg c]
    exact ev_neg c (Ev.now _)

/-! strings_CutPrefix -/
theorem strings_CutPrefix.one (s : ByteArray) (c : UInt8) : strings_CutPrefix.f s (⟨#[c]⟩ : ByteArray) = some (if 0 < s.size ∧ bt s 0 = (c.toNat : Int) then (s.extract 1 s.size, true) else (s, false)) := by
  have e1 : (⟨#[c]⟩ : ByteArray).size = 1 := rfl
  unfold strings_CutPrefix.f stringslite_CutPrefix.f stringslite_HasPrefix.f
  simp only [e1]
  by_cases h : 1 ≤ s.size
  · have hp := byte_is s 0 (by omega) c
    have e2 : ((1 : Nat) : Int).toNat = 1 := rfl
    rw [if_pos (by omega), if_pos (by omega), if_pos (by omega)]
    simp only [e2, Option.bind_some]
    rw [show (0 : Nat) + 1 = 1 from rfl] at hp
    rw [hp]
    by_cases k : bt s ((0 : Nat) : Int) = (c.toNat : Int)
    · rw [if_pos (decide_eq_true k), if_pos (by omega), if_pos (by omega), if_pos ⟨by omega, k⟩]; rfl
    · rw [if_neg (by rw [decide_eq_false k]; simp), if_neg (fun hh => k hh.2)]; rfl
  · rw [if_neg (by omega : ¬ ((s.size : Int) ≥ ((1 : Nat) : Int)))]
    simp only [Option.bind_some]
    rw [if_neg (by simp), if_neg (fun hh => h (by have := hh.1; omega))]
    rfl

/-! strings_CutSuffix -/
theorem strings_CutSuffix.one (s : ByteArray) (hs : s.size ≤ 1000000000) (c : UInt8) : strings_CutSuffix.f s (⟨#[c]⟩ : ByteArray) = some (if 0 < s.size ∧ bt s ((s.size - 1 : Nat) : Int) = (c.toNat : Int) then (s.extract 0 (s.size - 1), true) else (s, false)) := by
  have e1 : (⟨#[c]⟩ : ByteArray).size = 1 := rfl
  unfold strings_CutSuffix.f stringslite_CutSuffix.f stringslite_HasSuffix.f
  simp only [e1]
  by_cases h : 1 ≤ s.size
  · have hp := byte_is s (s.size - 1) (by omega) c
    have e2 : wrap64 ((s.size : Int) - ((1 : Nat) : Int)) = ((s.size - 1 : Nat) : Int) := by rw [w64 (by omega) (by omega)]; omega
    rw [show s.size - 1 + 1 = s.size by omega] at hp
    rw [e2, Int.toNat_natCast, if_pos (by omega), if_pos (by omega), if_pos (by omega)]
    simp only [Option.bind_some]
    rw [hp]
    by_cases k : bt s ((s.size - 1 : Nat) : Int) = (c.toNat : Int)
    · rw [if_pos (decide_eq_true k), if_pos (by omega), if_pos (by omega), if_pos ⟨by omega, k⟩]; rfl
    · rw [if_neg (by rw [decide_eq_false k]; simp), if_neg (fun hh => k hh.2)]; rfl
  · rw [if_neg (by omega : ¬ ((s.size : Int) ≥ ((1 : Nat) : Int)))]
    simp only [Option.bind_some]
    rw [if_neg (by simp), if_neg (fun hh => h (by have := hh.1; omega))]
    rfl

/-! impl_SplitByte -/
theorem impl_SplitByte.l0_ev (s : ByteArray) (b : Int) (hs : s.size < 1000000000000) : ∀ (d : Nat) (out : List ByteArray) (fr i : Nat), i + d = s.size → fr ≤ i → out.length ≤ i → Ev (fun k => impl_SplitByte.l0 k s b out (fr : Int) (i : Int)) (splitFrom s b d out fr i) := by
  intro d
  induction d with
  | zero =>
    intro out fr i h1 h2 h3
    refine Ev.step (fun k => by rw [impl_SplitByte.l0]) ?_
    rw [splitFrom, Int.toNat_natCast]
    exact ev_neg (by omega) (ev_pos (by omega) (ev_pos (by omega) (ev_pos (by omega) (Ev.now _))))
  | succ d ih =>
    intro out fr i h1 h2 h3
    refine Ev.step (fun k => by rw [impl_SplitByte.l0]) ?_
    refine ev_pos (by omega) (ev_pos (by omega) ?_)
    rw [wadd1 (by omega), splitFrom, Int.toNat_natCast, Int.toNat_natCast]
    by_cases e : bt s (i : Int) = b
    · rw [if_pos e]
      exact ev_pos e (ev_pos (by omega) (ev_pos (by omega) (ev_pos (by omega) (ev_pos (by omega) (ih _ _ _ (by omega) (by omega) (by simp; omega))))))
    · rw [if_neg e]
      exact ev_neg e (ih _ _ _ (by omega) (by omega) (by omega))
theorem impl_SplitByte.ev (s : ByteArray) (b : Int) (hs : s.size < 1000000000000) : Ev (fun k => impl_SplitByte.f k s b) (splitV s b) := by
  unfold impl_SplitByte.f splitV
  exact impl_SplitByte.l0_ev s b hs s.size [] 0 0 (by omega) (by omega) (by simp)

/-! strings_TrimPrefix -/
theorem strings_TrimPrefix.minus (s : ByteArray) : strings_TrimPrefix.f s (⟨#[45]⟩ : ByteArray) = some (cutB s (isNeg s)) := by
  have e1 : (⟨#[45]⟩ : ByteArray).size = 1 := rfl
  unfold strings_TrimPrefix.f stringslite_TrimPrefix.f stringslite_HasPrefix.f
  simp only [e1]
  by_cases h : 1 ≤ s.size
  · rw [if_pos (by omega), if_pos (by omega), if_pos (by omega)]
    have hp := prefix_neg s h
    have e2 : ((1 : Nat) : Int).toNat = 1 := rfl
    simp only [e2, Option.bind_some]
    rw [hp]
    unfold cutB
    by_cases c : isNeg s = true
    · rw [if_pos c, if_pos c, if_pos (by omega), if_pos (by omega)]; rfl
    · rw [if_neg c, if_neg c]; rfl
  · have c : isNeg s = false := by
      unfold isNeg
      rw [decide_eq_false (by omega)]
      rfl
    rw [if_neg (by omega)]
    simp only [Option.bind_some]
    rw [c]
    rfl

/-! impl_parsed -/
theorem impl_parsed.l0_ev (s t : ByteArray) (neg : Bool) (hn : (t.size < s.size) ↔ neg = true) (ht : t.size < 1000000000000) : ∀ (d j : Nat) (acc : Int), j + d = t.size → (-9223372036854775808 ≤ acc ∧ acc ≤ 9223372036854775807) → Ev (fun k => impl_parsed.l0 k s t acc (j : Int)) (match accD t d j acc with | none => (0, false) | some x => finV s (negV neg x)) := by
  intro d
  induction d with
  | zero =>
    intro j acc h1 h2
    refine Ev.step (fun k => by rw [impl_parsed.l0]) ?_
    refine ev_neg (by omega) ?_
    show Ev _ (finV s (negV neg acc))
    unfold finV negV
    by_cases c : neg = true
    · have hc := hn.2 c
      refine ev_pos (by omega) ?_
      rw [impl_FormatInt.eq _ (wrap_range _).1 (wrap_range _).2, if_pos c]
      simp only [Option.bind_some]
      by_cases e : (itoaB (wrap64 (-acc))).toList = s.toList
      · simp only [if_pos e]; exact Ev.now _
      · simp only [if_neg e]; exact Ev.now _
    · have hc : ¬ t.size < s.size := fun h => c (hn.1 h)
      refine ev_neg (by omega) ?_
      rw [impl_FormatInt.eq _ h2.1 h2.2, if_neg c]
      simp only [Option.bind_some]
      by_cases e : (itoaB acc).toList = s.toList
      · simp only [if_pos e]; exact Ev.now _
      · simp only [if_neg e]; exact Ev.now _
  | succ d ih =>
    intro j acc h1 h2
    refine Ev.step (fun k => by rw [impl_parsed.l0]) ?_
    rw [wadd1 (j := j) (by omega), accD]
    refine ev_pos (by omega) (ev_pos (by omega) ?_)
    by_cases c1 : bt t (j : Int) < 48
    · rw [if_pos c1]; exact ev_pos c1 (Ev.now _)
    · rw [if_neg c1]
      refine ev_neg c1 ?_
      by_cases c2 : bt t (j : Int) > 57
      · rw [if_pos c2]; exact ev_pos c2 (Ev.now _)
      · rw [if_neg c2]
        exact ev_neg c2 (ih (j + 1) _ (by omega) (wrap_range _))
theorem cutB_size (s : ByteArray) : ((cutB s (isNeg s)).size < s.size ↔ isNeg s = true) ∧ (cutB s (isNeg s)).size ≤ s.size := by
  unfold cutB
  by_cases c : isNeg s = true
  · have h : 0 < s.size := by
      unfold isNeg at c
      simp only [Bool.and_eq_true, decide_eq_true_eq] at c
      exact c.1
    rw [if_pos c, extract_size s 1 (by omega)]
    exact ⟨⟨fun _ => c, fun _ => by omega⟩, by omega⟩
  · rw [if_neg c]
    exact ⟨⟨fun h => by omega, fun h => absurd h c⟩, by omega⟩
theorem impl_parsed.ev (s : ByteArray) (m : Int) (hs : s.size ≤ 1048576) : Ev (fun k => impl_parsed.f k s m) (readV s m) := by
  unfold impl_parsed.f readV
  rw [strings_TrimPrefix.minus]
  simp only [Option.bind_some]
  have hc := cutB_size s
  have go := impl_parsed.l0_ev s (cutB s (isNeg s)) (isNeg s) hc.1 (by omega) (cutB s (isNeg s)).size 0 0 (by omega) (by omega)
  by_cases c1 : (cutB s (isNeg s)).size < 1
  · rw [if_pos (.inl c1)]
    refine ev_pos (by omega) (Ev.step (fun k => by rw [impl_parsed.j0]) ?_)
    exact ev_pos rfl (Ev.now _)
  · refine ev_neg (by omega) (Ev.step (fun k => by rw [impl_parsed.j0]) ?_)
    by_cases c2 : ((cutB s (isNeg s)).size : Int) > m
    · rw [if_pos (.inr c2)]
      exact ev_pos (decide_eq_true c2) (Ev.now _)
    · rw [if_neg (by omega)]
      exact ev_neg (by simpa using c2) go

/-! impl_ParseInt -/
theorem impl_ParseInt.ev (s : ByteArray) (hs : s.size ≤ 1048576) : Ev (fun k => impl_ParseInt.f k s) (readV s 12) := by
  unfold impl_ParseInt.f
  exact Ev.bind (impl_parsed.ev s 12 hs) (Ev.now _)

/-! impl_ParseList -/
theorem impl_ParseList.l0_ev (ps : List ByteArray) (hp : ∀ p ∈ ps, p.size ≤ 1048576) (hl : ps.length ≤ 1048577) : ∀ (d j : Nat) (acc : List Int), j + d = ps.length → acc.length ≤ j → Ev (fun k => impl_ParseList.l0 k acc ps (ps.length : Int) (j : Int)) (readFrom ps d j acc) := by
  intro d
  induction d with
  | zero =>
    intro j acc h1 h2
    refine Ev.step (fun k => by rw [impl_ParseList.l0]) ?_
    exact ev_neg (by omega) (Ev.now _)
  | succ d ih =>
    intro j acc h1 h2
    refine Ev.step (fun k => by rw [impl_ParseList.l0]) ?_
    rw [wadd1 (j := j) (by omega), rdOf_nat, readFrom]
    refine ev_pos (by omega) (ev_pos (by omega) (ev_pos (by omega) (Ev.bind (impl_ParseInt.ev _ (part_small hp j)) ?_)))
    by_cases c : (readV (ps.getD j ByteArray.empty) 12).2 = true
    · rw [if_pos c]
      exact ev_pos c (ev_pos (by omega) (ih (j + 1) _ (by omega) (by simp; omega)))
    · rw [if_neg c]
      exact ev_neg c (Ev.now _)
theorem impl_ParseList.ev (s : ByteArray) (hs : s.size ≤ 1048576) : Ev (fun k => impl_ParseList.f k s) (parseLV s) := by
  unfold impl_ParseList.f parseLV
  simp only [Option.bind_some]
  have hl := splitV_length s 44
  by_cases c : s.toList = [110, 111, 110, 101]
  · rw [if_pos c]
    exact ev_pos c (Ev.now _)
  · rw [if_neg c]
    refine ev_neg c (Ev.bind (impl_SplitByte.ev s 44 (by omega)) ?_)
    exact impl_ParseList.l0_ev _ (fun p hp => Nat.le_trans (splitV_small s 44 p hp) hs) (by omega) _ 0 [] (by omega) (by simp)

/-! impl_ParseSemigroup -/
theorem impl_ParseSemigroup.ev (s : ByteArray) (hs : s.size ≤ 1048576) : Ev (fun k => impl_ParseSemigroup.f k s) (parseSV s) := by
  unfold impl_ParseSemigroup.f
  have q60 : ((60 : UInt8).toNat : Int) = 60 := rfl
  have q62 : ((62 : UInt8).toNat : Int) = 62 := rfl
  rw [strings_CutPrefix.one s 60, q60]
  simp only [Option.bind_some]
  have hx : (s.extract 1 s.size).size = s.size - 1 := by rw [ByteArray.size_extract]; omega
  by_cases p : 0 < s.size ∧ bt s 0 = 60
  · rw [if_pos p]
    simp only []
    rw [strings_CutSuffix.one _ (by omega) 62, q62, hx]
    simp only [Option.bind_some]
    by_cases q : 0 < s.size - 1 ∧ bt (s.extract 1 s.size) ((s.size - 1 - 1 : Nat) : Int) = 62
    · rw [if_pos q, mid_of]
      simp only []
      have q2 := q.2
      rw [bt_shift s (s.size - 1 - 1) (by omega), show s.size - 1 - 1 + 1 = s.size - 1 by omega] at q2
      have hm : (midB s).size + 1 ≤ 1048576 := by unfold midB; rw [ByteArray.size_extract]; omega
      have hl := parseLV_length (midB s)
      refine Ev.bind (impl_ParseList.ev (midB s) (by omega)) (ev_pos (by trivial) (ev_pos (by trivial) ?_))
      by_cases c1 : (parseLV (midB s)).2 = true
      · refine ev_pos c1 (Ev.bind (impl_IsSemigroup.ev _ (by omega)) ?_)
        by_cases c2 : SG (parseLV (midB s)).1
        · rw [parseSV_yes ⟨by omega, p.2, q2, c1, c2⟩]
          exact ev_pos (B_true c2) (Ev.now _)
        · rw [parseSV_no (fun h => c2 h.2.2.2.2)]
          exact ev_neg (by rw [B_false c2]; simp) (Ev.now _)
      · rw [parseSV_no (fun h => c1 h.2.2.2.1)]
        exact ev_neg c1 (Ev.now _)
    · rw [if_neg q]
      simp only []
      refine Ev.bind (impl_ParseList.ev _ (by omega)) (ev_pos (by trivial) (ev_neg (by simp) ?_))
      rw [parseSV_no (fun h => q ⟨by omega, by
        rw [bt_shift s (s.size - 1 - 1) (by omega), show s.size - 1 - 1 + 1 = s.size - 1 by omega]
        exact h.2.2.1⟩)]
      exact Ev.now _
  · rw [if_neg p]
    simp only []
    rw [strings_CutSuffix.one s (by omega) 62]
    simp only [Option.bind_some]
    have hz : ∀ r : ByteArray × Bool, r.1.size ≤ s.size → Ev (fun k => (impl_ParseList.f k r.1).bind fun bt384 => (if false = true then (if r.2 = true then (if bt384.2 = true then ((impl_IsSemigroup.f k bt384.1).bind fun t389 => (if t389 = true then (some (bt384.1, true)) else (some (([] : List Int), false)))) else (some (([] : List Int), false))) else (some (([] : List Int), false))) else (some (([] : List Int), false)))) (parseSV s) := fun r hr => by
      refine Ev.bind (impl_ParseList.ev r.1 (by omega)) (ev_neg (by simp) ?_)
      rw [parseSV_no (fun h => p ⟨by omega, h.2.1⟩)]
      exact Ev.now _
    refine hz _ ?_
    split
    · rw [ByteArray.size_extract]; omega
    · exact Nat.le_refl _

/-! spec_FormatInt -/
theorem spec_FormatInt.l0_ev : ∀ (n : Nat) (x : Int) (neg : Bool) (s : List UInt8), x.natAbs = n → -9223372036854775808 ≤ x → x ≤ 9223372036854775807 → (s.length + (digs n).length ≤ 100) → Ev (fun k => spec_FormatInt.l0 k x neg ⟨s.toArray⟩) ⟨((if neg = true then [45] else []) ++ (digs n ++ s)).toArray⟩ := by
  intro n
  induction n using Nat.strongRecOn with
  | _ n ih =>
    intro x neg s hx hlo hhi hs
    refine Ev.step (fun k => by rw [spec_FormatInt.l0]) ?_
    by_cases e : x = 0
    · refine ev_pos e ?_
      obtain rfl : n = 0 := by omega
      cases neg with
      | false => exact ev_neg (by simp) (Ev.now _)
      | true =>
        refine ev_pos rfl (ev_pos (by rw [ba_size]; omega) ?_)
        have : (⟨#[45]⟩ : ByteArray) ++ (⟨s.toArray⟩ : ByteArray) = ⟨(([45] : List UInt8) ++ (digs 0 ++ s)).toArray⟩ := ba_append [45] s
        rw [this]
        exact Ev.now _
    · have hn : 0 < n := by omega
      have hl : (digs n).length = (digs (n / 10)).length + 1 := by rw [digs_step hn]; simp
      have hd : (Int.tdiv x 10).natAbs = n / 10 := by rw [Int.natAbs_tdiv, hx]; rfl
      have hb : -9223372036854775808 ≤ Int.tdiv x 10 ∧ Int.tdiv x 10 ≤ 9223372036854775807 := by omega
      have hr : (Int.tmod x 10).natAbs = n % 10 := by rw [Int.natAbs_tmod, hx]; rfl
      have hw : wrap64 (Int.tdiv x 10) = Int.tdiv x 10 := w64 hb.1 hb.2
      have go := ih (n / 10) (by omega) (Int.tdiv x 10) neg (UInt8.ofNat (48 + n % 10) :: s) hd hb.1 hb.2 (by rw [List.length_cons]; omega)
      have e2 : digs (n / 10) ++ UInt8.ofNat (48 + n % 10) :: s = digs n ++ s := by rw [digs_step hn]; simp
      rw [e2] at go
      have one : ∀ z : Int, z = ((48 + n % 10 : Nat) : Int) → strOfNums [z] ++ (⟨s.toArray⟩ : ByteArray) = ⟨(UInt8.ofNat (48 + n % 10) :: s).toArray⟩ := fun z hz => by
        rw [hz, strOfNums_one _ (by omega), ba_append]; rfl
      have sz : ∀ z : Int, z = ((48 + n % 10 : Nat) : Int) → (strOfNums [z]).size = 1 := fun z hz => by
        rw [hz, strOfNums_one _ (by omega), ba_size]; rfl
      refine ev_neg e ?_
      by_cases hm : Int.tmod x 10 < 0
      · have h1 : wrap64 (48 + wrap64 (-Int.tmod x 10)) % 256 = ((48 + n % 10 : Nat) : Int) := by
          rw [w64 (n := -Int.tmod x 10) (by omega) (by omega), w64 (by omega) (by omega)]
          omega
        refine ev_pos hm ?_
        simp only [Option.bind_some]
        rw [hw, one _ h1, sz _ h1]
        exact ev_pos (by rw [ba_size]; omega) go
      · have h1 : wrap64 (48 + Int.tmod x 10) % 256 = ((48 + n % 10 : Nat) : Int) := by
          rw [w64 (by omega) (by omega)]
          omega
        refine ev_neg hm ?_
        simp only [Option.bind_some]
        rw [hw, one _ h1, sz _ h1]
        exact ev_pos (by rw [ba_size]; omega) go
theorem spec_FormatInt.ev (x : Int) (h : -9223372036854775808 ≤ x) (h' : x ≤ 9223372036854775807) : Ev (fun k => spec_FormatInt.f k x) (itoaB x) := by
  unfold spec_FormatInt.f
  by_cases e : x = 0
  · subst e
    have : itoaB 0 = ⟨#[48]⟩ := by simp [itoaB, Lib.itoa, Lib.decDigits]
    rw [this]
    exact ev_pos rfl (Ev.now _)
  · refine ev_neg e ?_
    have := digs_length x.natAbs (by omega)
    have go := spec_FormatInt.l0_ev x.natAbs x (decide (x < 0)) [] rfl h h' (by simp; omega)
    rw [itoaB_of x e]
    simp only [List.append_nil, decide_eq_true_eq] at go
    exact go

/-! spec_Join -/
theorem spec_Join.l0_ev (l : List ByteArray) (b : ByteArray) (hl : l.length ≤ 1048576) (hb : b.size ≤ 1048576) (hs : Lib.lens (l.map (·.data.toList)) ≤ 1000000000) : ∀ (d j : Nat), j + d = l.length → Ev (fun k => spec_Join.l0 k l b (bnums (joinK l b j)) (j : Int)) ⟨(joinK l b l.length).toArray⟩ := by
  have hm : b.size * l.length ≤ 1048576 * 1048576 := Nat.mul_le_mul hb hl
  have sz : ∀ j (hj : j < l.length), (l[j]).size ≤ 1000000000 := fun j hj => by
    have h1 := Lib.lens_take_succ (l.map (·.data.toList)) j (l[j]).data.toList (by simp [hj])
    have h2 := Lib.lens_take_le (l.map (·.data.toList)) (j + 1)
    have h3 : (l[j]).data.toList.length = (l[j]).size := data_length _
    omega
  intro d
  induction d with
  | zero =>
    intro j h1
    obtain rfl : j = l.length := by omega
    refine Ev.step (fun k => by rw [spec_Join.l0]) ?_
    refine ev_neg (by omega) ?_
    rw [strOfNums_bnums]
    exact Ev.now _
  | succ d ih =>
    intro j h1
    have hj : j < l.length := by omega
    have hk := joinK_length l b j
    have hn := ih (j + 1) (by omega)
    have e0 : l.getD j ByteArray.empty = l[j] := by simp [List.getD_eq_getElem?_getD, hj]
    have hx := sz j hj
    have hnl := bnums_length (joinK l b j)
    have hbl := bytesOf_length b
    refine Ev.step (fun k => by rw [spec_Join.l0]) ?_
    rw [wadd1 (j := j) (by omega), rdOf_nat, e0]
    refine ev_pos (by omega) ?_
    by_cases c : j = 0
    · subst c
      refine ev_neg (by omega) (ev_pos (by omega) (ev_pos (by omega) ?_))
      rw [joinK_zero, bnums_bytes]
      rw [joinK_one b hj] at hn
      exact hn
    · refine ev_pos (by omega) (ev_pos (by omega) ?_)
      simp only [Option.bind_some]
      refine ev_pos (by omega) (ev_pos (by rw [List.length_append]; omega) ?_)
      rw [joinK_succ b (by omega) hj, bnums_append, bnums_append] at hn
      rw [bnums_bytes, bnums_bytes]
      exact hn
theorem spec_Join.evB (l : List ByteArray) (b : ByteArray) (hl : l.length ≤ 1048576) (hb : b.size ≤ 1048576) (hs : Lib.lens (l.map (·.data.toList)) ≤ 1000000000) : Ev (fun k => spec_Join.f k l b) ⟨(Lib.join (l.map (·.data.toList)) b.data.toList).toArray⟩ := by
  have := spec_Join.l0_ev l b hl hb hs l.length 0 (by omega)
  unfold joinK at this
  rw [List.take_length] at this
  unfold spec_Join.f
  exact this
theorem spec_Join.ev (l : List ByteArray) (b : ByteArray) (hl : l.length ≤ 1048576) (hb : b.size ≤ 1048576) (hs : Lib.lens (l.map (·.data.toList)) ≤ 1048576) : Ev (fun k => spec_Join.f k l b) ⟨(Lib.join (l.map (·.data.toList)) b.data.toList).toArray⟩ := spec_Join.evB l b hl hb (by omega)

/-! spec_ListText -/
theorem spec_ListText.l0_ev (l : List Int) (hl : l.length ≤ 1048576) (hw : ∀ x ∈ l, -9223372036854775808 ≤ x ∧ x ≤ 9223372036854775807) : ∀ (d j : Nat), j + d = l.length → Ev (fun k => spec_ListText.l0 k l ((l.take j).map itoaB) (j : Int)) ⟨(Lib.join ((l.map itoaB).map (·.data.toList)) [44]).toArray⟩ := by
  intro d
  induction d with
  | zero =>
    intro j h1
    obtain rfl : j = l.length := by omega
    refine Ev.step (fun k => by rw [spec_ListText.l0]) ?_
    refine ev_neg (by omega) ?_
    rw [List.take_length]
    have hz := lens_texts l hw
    exact Ev.bind (spec_Join.evB (l.map itoaB) ⟨#[44]⟩ (by simpa using hl) (by decide) (by omega)) (Ev.now _)
  | succ d ih =>
    intro j h1
    have hj : j < l.length := by omega
    have hn := ih (j + 1) (by omega)
    have hm := hw _ (getD_mem hj)
    refine Ev.step (fun k => by rw [spec_ListText.l0]) ?_
    rw [wadd1 (j := j) (by omega), rd_nat]
    refine ev_pos (by omega) (ev_pos (by omega) (Ev.bind (spec_FormatInt.ev _ hm.1 hm.2) (ev_pos (by simp; omega) ?_)))
    rw [List.take_succ_eq_append_getElem hj, List.map_append, List.map_cons, List.map_nil, ← getD_get hj] at hn
    exact hn
theorem spec_ListText.ev (l : List Int) (hl : l.length ≤ 1048576) (hw : ∀ x ∈ l, -9223372036854775808 ≤ x ∧ x ≤ 9223372036854775807) : Ev (fun k => spec_ListText.f k l) (listB l) := by
  unfold spec_ListText.f listB
  by_cases e : l = []
  · rw [if_pos e]
    exact ev_pos (by rw [e]; rfl) (Ev.now _)
  · rw [if_neg e]
    refine ev_neg (by have := List.length_pos_iff.2 e; omega) ?_
    exact spec_ListText.l0_ev l hl hw l.length 0 (by omega)

/-! spec_SemigroupText -/
theorem spec_SemigroupText.ev (g : List Int) (hg : g.length ≤ 1048576) : Ev (fun k => spec_SemigroupText.f k g) (sgB g) := by
  unfold spec_SemigroupText.f sgB
  refine Ev.bind (spec_IsSemigroup.ev g hg) ?_
  by_cases c : B (SG g) = true
  · have h : SG g := B_iff.1 c
    have hz := listB_size g h.range
    have h3 : (⟨#[60]⟩ : ByteArray).size = 1 := rfl
    rw [if_pos c]
    refine ev_pos c (Ev.bind (spec_ListText.ev g hg h.range) ?_)
    exact ev_pos (by omega) (ev_pos (by rw [ByteArray.size_append]; omega) (Ev.now _))
  · rw [if_neg c]
    exact ev_neg c (Ev.now _)

/-! spec_l1Pick -/
theorem spec_l1Pick.eq (s : List Int) (hs : s.length < 4611686018427387904) (i : Int) (hi : 0 ≤ i) (h : Int) (l : List ByteArray) (hl : 1 ≤ l.length) : ∃ x i' h', spec_l1Pick.f s i h l = some (x, i', h') ∧ x ∈ l ∧ 0 ≤ i' := by
  obtain ⟨x, i1, h1, e1, hx, hi1⟩ := spec_l1Below.eq s hs i hi h (l.length : Int) (by omega)
  unfold spec_l1Pick.f
  rw [e1]
  simp only [Option.bind_some]
  rw [if_pos hx.1, if_pos hx.2]
  refine ⟨_, _, _, rfl, ?_, hi1⟩
  obtain ⟨m, rfl⟩ : ∃ m : Nat, x = (m : Int) := ⟨x.toNat, by omega⟩
  rw [rdOf_nat]
  have hm : m < l.length := by omega
  simp [List.getD_eq_getElem?_getD, hm]

/-! spec_l1Turned -/
theorem spec_l1Turned.eq (s : List Int) (hs : s.length < 4611686018427387904) (i : Int) (hi : 0 ≤ i) (h : Int) (t : ByteArray) (ht : t.size ≤ 1000000) (l : List ByteArray) (hl : 1 ≤ l.length) (hx : ∀ x ∈ l, x.size ≤ 10) : ∃ u i' h', spec_l1Turned.f s i h t l = some (u, i', h') ∧ u.size ≤ t.size + 10 ∧ 0 ≤ i' := by
  have hw : wrap64 ((t.size : Int) + 1) = (t.size : Int) + 1 := w64 (by omega) (by omega)
  obtain ⟨a, i1, h1, e1, ha, hi1⟩ := spec_l1Below.eq s hs i hi h ((t.size : Int) + 1) (by omega)
  obtain ⟨b, i2, h2, e2, hb, hi2⟩ := spec_l1Below.eq s hs i1 hi1 h1 6 (by omega)
  have z1 : (t.extract 0 a.toNat).size ≤ t.size := by rw [ByteArray.size_extract]; omega
  unfold spec_l1Turned.f
  rw [hw, e1]
  simp only [Option.bind_some]
  rw [e2]
  simp only [Option.bind_some]
  by_cases c0 : b = 0
  · obtain ⟨x, i3, h3, e3, hm, hi3⟩ := spec_l1Pick.eq s hs i2 hi2 h2 l hl
    have hz := hx x hm
    have z2 : (t.extract 0 a.toNat).size + (t.extract a.toNat t.size).size ≤ t.size := by rw [ByteArray.size_extract, ByteArray.size_extract]; omega
    rw [if_pos c0, if_pos ha.1, if_pos (by omega), e3]
    simp only [Option.bind_some]
    rw [if_pos (by omega), if_pos (by rw [ByteArray.size_append]; omega)]
    exact ⟨_, _, _, rfl, by rw [ByteArray.size_append, ByteArray.size_append]; omega, hi3⟩
  · rw [if_neg c0]
    by_cases c1 : b = 1
    · rw [if_pos c1, if_pos ha.1, if_pos (by omega)]
      exact ⟨_, _, _, rfl, by omega, hi2⟩
    · rw [if_neg c1]
      exact ⟨_, _, _, rfl, by omega, hi2⟩

/-! spec_DrawParseSemigroup -/
def drawnSigns : List ByteArray := [(⟨#[60]⟩ : ByteArray), (⟨#[62]⟩ : ByteArray), (⟨#[44]⟩ : ByteArray), (⟨#[51]⟩ : ByteArray), (⟨#[49]⟩ : ByteArray), (⟨#[32]⟩ : ByteArray)]
theorem drawnSigns_small : ∀ s ∈ drawnSigns, s.size ≤ 10 := by
  intro s hs
  simp only [drawnSigns, List.mem_cons, List.not_mem_nil, or_false] at hs
  rcases hs with rfl | rfl | rfl | rfl | rfl | rfl <;> decide
theorem sgB_size {g : List Int} (h : SG g) : (sgB g).size ≤ 300 := by
  have hz := listB_size g h.range
  have hl := h.1.2
  have h3 : (⟨#[60]⟩ : ByteArray).size = 1 := rfl
  have h4 : (⟨#[62]⟩ : ByteArray).size = 1 := rfl
  unfold sgB
  rw [if_pos (B_true h), ByteArray.size_append, ByteArray.size_append]
  omega
theorem sgB_small (g : List Int) : (sgB g).size ≤ 300 := by
  by_cases h : SG g
  · exact sgB_size h
  · rw [(parseSV_none h).1]
    exact Nat.zero_le _
theorem spec_DrawParseSemigroup.ev (l : List Int) (hl : l.length < 4611686018427387904) : ∃ s, Ev (fun k => spec_DrawParseSemigroup.f k l) s ∧ s.size ≤ 1000 := by
  obtain ⟨h, hh⟩ := spec_l1New.ev l hl
  obtain ⟨g, i1, h1, e1, hg, hi1⟩ := spec_l3Draw.ev l hl 0 (by omega) h
  have hz := sgB_size hg
  have hgl := hg.1.2
  obtain ⟨u, i2, h2, e2, hu, hi2⟩ := spec_l1Turned.eq l hl i1 hi1 h1 (sgB g) (by omega) drawnSigns (by simp [drawnSigns]) drawnSigns_small
  unfold drawnSigns at e2
  refine ⟨u, ?_, by omega⟩
  unfold spec_DrawParseSemigroup.f
  refine Ev.bind hh (Ev.bind e1 (Ev.bind (spec_SemigroupText.ev g (by omega)) ?_))
  simp only []
  rw [e2]
  exact Ev.now _

/-! spec_SplitByte -/
theorem spec_SplitByte.l0_ev (s : ByteArray) (b : Int) (hs : s.size < 1000000000000) : ∀ (d : Nat) (out : List ByteArray) (fr i : Nat), i + d = s.size → fr ≤ i → out.length ≤ i → Ev (fun k => spec_SplitByte.l0 k s b out (fr : Int) (i : Int)) (splitFrom s b d out fr i) := by
  intro d
  induction d with
  | zero =>
    intro out fr i h1 h2 h3
    refine Ev.step (fun k => by rw [spec_SplitByte.l0]) ?_
    refine ev_pos (by omega) (ev_pos (by omega) (ev_pos (by omega) (ev_pos (by omega) (ev_pos (by omega) ?_))))
    rw [wadd1 (by omega)]
    refine Ev.step (fun k => by rw [spec_SplitByte.l0]) ?_
    rw [splitFrom, Int.toNat_natCast, Int.toNat_natCast, show i = s.size by omega]
    exact ev_neg (by omega) (Ev.now _)
  | succ d ih =>
    intro out fr i h1 h2 h3
    refine Ev.step (fun k => by rw [spec_SplitByte.l0]) ?_
    refine ev_pos (by omega) (ev_neg (by omega) (ev_pos (by omega) (ev_pos (by omega) ?_)))
    rw [wadd1 (by omega), splitFrom, Int.toNat_natCast, Int.toNat_natCast]
    by_cases e : bt s (i : Int) = b
    · rw [if_pos e]
      exact ev_pos e (ev_pos (by omega) (ev_pos (by omega) (ev_pos (by omega) (ih _ _ _ (by omega) (by omega) (by simp; omega)))))
    · rw [if_neg e]
      exact ev_neg e (ih _ _ _ (by omega) (by omega) (by omega))
theorem spec_SplitByte.ev (s : ByteArray) (b : Int) (hs : s.size < 1000000000000) : Ev (fun k => spec_SplitByte.f k s b) (splitV s b) := by
  unfold spec_SplitByte.f splitV
  exact spec_SplitByte.l0_ev s b hs s.size [] 0 0 (by omega) (by omega) (by simp)

/-! spec_l1Read -/
theorem spec_l1Read.l0_ev (s t : ByteArray) (neg : Bool) (ht : t.size < 1000000000000) : ∀ (d j : Nat) (acc : Int), j + d = t.size → (-9223372036854775808 ≤ acc ∧ acc ≤ 9223372036854775807) → Ev (fun k => spec_l1Read.l0 k s neg t acc (j : Int)) (match accD t d j acc with | none => (0, false) | some x => finV s (negV neg x)) := by
  intro d
  induction d with
  | zero =>
    intro j acc h1 h2
    refine Ev.step (fun k => by rw [spec_l1Read.l0]) ?_
    refine ev_neg (by omega) ?_
    show Ev _ (finV s (negV neg acc))
    unfold finV negV
    by_cases c : neg = true
    · refine ev_pos c (Ev.bind (spec_FormatInt.ev _ (wrap_range _).1 (wrap_range _).2) ?_)
      rw [if_pos c]
      by_cases e : (itoaB (wrap64 (-acc))).toList = s.toList
      · simp only [if_pos e]; exact Ev.now _
      · simp only [if_neg e]; exact Ev.now _
    · refine ev_neg c (Ev.bind (spec_FormatInt.ev _ h2.1 h2.2) ?_)
      rw [if_neg c]
      by_cases e : (itoaB acc).toList = s.toList
      · simp only [if_pos e]; exact Ev.now _
      · simp only [if_neg e]; exact Ev.now _
  | succ d ih =>
    intro j acc h1 h2
    refine Ev.step (fun k => by rw [spec_l1Read.l0]) ?_
    rw [wadd1 (j := j) (by omega), accD]
    refine ev_pos (by omega) (ev_pos (by omega) ?_)
    by_cases c1 : bt t (j : Int) < 48
    · rw [if_pos c1]; exact ev_pos c1 (Ev.now _)
    · rw [if_neg c1]
      refine ev_neg c1 ?_
      by_cases c2 : bt t (j : Int) > 57
      · rw [if_pos c2]; exact ev_pos c2 (Ev.now _)
      · rw [if_neg c2]
        exact ev_neg c2 (ih (j + 1) _ (by omega) (wrap_range _))
theorem spec_l1Read.j1_ev (s : ByteArray) (m : Int) (hs : s.size ≤ 1048576) : Ev (fun k => spec_l1Read.j1 k s m (isNeg s) (cutB s (isNeg s))) (readV s m) := by
  have hz : (cutB s (isNeg s)).size ≤ s.size := by
    unfold cutB
    split
    · rw [ByteArray.size_extract]; omega
    · exact Nat.le_refl _
  unfold readV
  have go := spec_l1Read.l0_ev s (cutB s (isNeg s)) (isNeg s) (by omega) (cutB s (isNeg s)).size 0 0 (by omega) (by omega)
  refine Ev.step (fun k => by rw [spec_l1Read.j1]) ?_
  by_cases c1 : (cutB s (isNeg s)).size < 1
  · rw [if_pos (.inl c1)]
    refine ev_pos (by omega) (Ev.step (fun k => by rw [spec_l1Read.j2]) ?_)
    exact ev_pos rfl (Ev.now _)
  · refine ev_neg (by omega) (Ev.step (fun k => by rw [spec_l1Read.j2]) ?_)
    by_cases c2 : ((cutB s (isNeg s)).size : Int) > m
    · rw [if_pos (.inr c2)]
      exact ev_pos (decide_eq_true c2) (Ev.now _)
    · rw [if_neg (by omega)]
      exact ev_neg (by simpa using c2) go
theorem spec_l1Read.j0_ev (s : ByteArray) (m : Int) (hs : s.size ≤ 1048576) : Ev (fun k => spec_l1Read.j0 k s m (isNeg s)) (readV s m) := by
  have go := spec_l1Read.j1_ev s m hs
  refine Ev.step (fun k => by rw [spec_l1Read.j0]) ?_
  by_cases c : isNeg s = true
  · have h : 0 < s.size := by
      unfold isNeg at c
      simp only [Bool.and_eq_true, decide_eq_true_eq] at c
      exact c.1
    have e : cutB s (isNeg s) = s.extract 1 s.size := by unfold cutB; rw [if_pos c]
    rw [e] at go
    exact ev_pos c (ev_pos (by omega) go)
  · have e : cutB s (isNeg s) = s := by unfold cutB; rw [if_neg c]
    rw [e] at go
    exact ev_neg c go
theorem spec_l1Read.ev (s : ByteArray) (m : Int) (hs : s.size ≤ 1048576) : Ev (fun k => spec_l1Read.f k s m) (readV s m) := by
  have go := spec_l1Read.j0_ev s m hs
  unfold spec_l1Read.f
  by_cases h : 0 < s.size
  · have e : (bt s 0 == 45) = isNeg s := by
      unfold isNeg
      rw [decide_eq_true h, Bool.true_and]
      by_cases c : bt s 0 = 45
      · rw [decide_eq_true c, c]; rfl
      · rw [decide_eq_false c]; exact beq_eq_false_iff_ne.2 c
    rw [e]
    exact ev_pos (by omega) (ev_pos (by omega) go)
  · have e : false = isNeg s := by
      unfold isNeg
      rw [decide_eq_false h]
      rfl
    rw [e]
    exact ev_neg (by omega) go

/-! spec_ParseInt -/
theorem spec_ParseInt.ev (s : ByteArray) (hs : s.size ≤ 1048576) : Ev (fun k => spec_ParseInt.f k s) (readV s 12) := by
  unfold spec_ParseInt.f
  exact Ev.bind (spec_l1Read.ev s 12 hs) (Ev.now _)

/-! spec_ParseList -/
theorem spec_ParseList.none_ev (s : ByteArray) (hs : s.toList = [110, 111, 110, 101]) (ps : List ByteArray) : Ev (fun k => spec_ParseList.l0 k s [] ps 0) ([], true) := by
  refine Ev.step (fun k => by rw [spec_ParseList.l0]) ?_
  rw [hs]
  by_cases c : (0 : Int) < (ps.length : Int)
  · refine ev_pos c (Ev.step (fun k => by rw [spec_ParseList.j1]) ?_)
    exact ev_neg (by decide) (Ev.now _)
  · refine ev_neg c (Ev.step (fun k => by rw [spec_ParseList.j1]) ?_)
    exact ev_neg (by decide) (Ev.now _)
theorem spec_ParseList.l0_ev (s : ByteArray) (hs : ¬ s.toList = [110, 111, 110, 101]) (ps : List ByteArray) (hp : ∀ p ∈ ps, p.size ≤ 1048576) (hl : ps.length ≤ 1048577) : ∀ (d j : Nat) (acc : List Int), j + d = ps.length → acc.length ≤ j → Ev (fun k => spec_ParseList.l0 k s acc ps (j : Int)) (readFrom ps d j acc) := by
  have hb : (s.toList != ([110, 111, 110, 101] : List UInt8)) = true := by simpa using hs
  intro d
  induction d with
  | zero =>
    intro j acc h1 h2
    refine Ev.step (fun k => by rw [spec_ParseList.l0]) ?_
    refine ev_neg (by omega) (Ev.step (fun k => by rw [spec_ParseList.j1]) ?_)
    exact ev_neg (by simp) (Ev.now _)
  | succ d ih =>
    intro j acc h1 h2
    refine Ev.step (fun k => by rw [spec_ParseList.l0]) ?_
    refine ev_pos (by omega) (Ev.step (fun k => by rw [spec_ParseList.j1]) ?_)
    rw [hb, wadd1 (j := j) (by omega), rdOf_nat, readFrom]
    refine ev_pos rfl (ev_pos (by omega) (ev_pos (by omega) (Ev.bind (spec_ParseInt.ev _ (part_small hp j)) ?_)))
    by_cases c : (readV (ps.getD j ByteArray.empty) 12).2 = true
    · rw [if_pos c]
      exact ev_pos c (ev_pos (by omega) (ih (j + 1) _ (by omega) (by simp; omega)))
    · rw [if_neg c]
      exact ev_neg c (Ev.now _)
theorem spec_ParseList.ev (s : ByteArray) (hs : s.size ≤ 1048576) : Ev (fun k => spec_ParseList.f k s) (parseLV s) := by
  unfold spec_ParseList.f parseLV
  refine Ev.bind (spec_SplitByte.ev s 44 (by omega)) ?_
  have hl := splitV_length s 44
  by_cases c : s.toList = [110, 111, 110, 101]
  · rw [if_pos c]
    exact spec_ParseList.none_ev s c _
  · rw [if_neg c]
    exact spec_ParseList.l0_ev s c _ (fun p hp => Nat.le_trans (splitV_small s 44 p hp) hs) (by omega) _ 0 [] (by omega) (by simp)

/-! spec_ParseSemigroup -/
theorem spec_ParseSemigroup.ev (s : ByteArray) (hs : s.size ≤ 1048576) : Ev (fun k => spec_ParseSemigroup.f k s) (parseSV s) := by
  unfold spec_ParseSemigroup.f
  by_cases c : s.size < 2
  · rw [parseSV_no (fun h => by omega)]
    exact ev_pos (by omega) (Ev.now _)
  · have e1 : wrap64 ((s.size : Int) - 1) = ((s.size - 1 : Nat) : Int) := by rw [w64 (by omega) (by omega)]; omega
    have hm : (midB s).size ≤ 1048576 := by unfold midB; rw [ByteArray.size_extract]; omega
    have hl := parseLV_length (midB s)
    have hl2 : (midB s).size + 1 ≤ 1048576 := by unfold midB; rw [ByteArray.size_extract]; omega
    rw [e1, Int.toNat_natCast]
    refine ev_neg (by omega) (ev_pos (by omega) (ev_pos (by omega) ?_))
    show Ev (fun k => (spec_ParseList.f k (midB s)).bind _) _
    refine Ev.bind (spec_ParseList.ev (midB s) hm) ?_
    by_cases c1 : (parseLV (midB s)).2 = true
    · refine ev_pos c1 (Ev.bind (spec_SemigroupText.ev _ (by omega)) ?_)
      have hi := sgB_iff s (by omega) c1
      by_cases c2 : (bt s 0 = 60 ∧ bt s ((s.size - 1 : Nat) : Int) = 62) ∧ SG (parseLV (midB s)).1
      · rw [parseSV_yes ⟨by omega, c2.1.1, c2.1.2, c1, c2.2⟩]
        exact ev_pos ((ba_eq _ _).2 (hi.2 c2)) (Ev.now _)
      · rw [parseSV_no (fun h => c2 ⟨⟨h.2.1, h.2.2.1⟩, h.2.2.2.2⟩)]
        exact ev_neg (fun h => c2 (hi.1 ((ba_eq _ _).1 h))) (Ev.now _)
    · rw [parseSV_no (fun h => c1 h.2.2.2.1)]
      exact ev_neg c1 (Ev.now _)

/-! spec_EqualSemigroup -/
theorem spec_EqualSemigroup.ev (x y : List Int) (hx : x.length < 4611686018427387904) : Ev (fun k => spec_EqualSemigroup.f k x y) (B (x = y)) := by
  unfold spec_EqualSemigroup.f
  exact Ev.bind (spec_l2Same.ev x y hx) (Ev.now _)

/-! impl_table -/
theorem impl_table.l0_ev (g L : List Int) (h : SG g) (a : Nat) (ha : (a : Int) = g.getD 0 0) (ha1 : 1 ≤ a) (ha2 : a ≤ 60) (hI : IsLeasts g a L) (hag : (a : Int) ∈ g) (m : Nat) (hm : m < 1000000000) :
    ∀ (d j : Nat) (T : List Bool), j + d = m + 1 → T.length = m + 1 → (∀ i, i < j → (T.getD i false = true ↔ Gen g (i : Int))) → ∃ T', Ev (fun k => impl_table.l0 k L T ((m + 1 : Nat) : Int) (j : Int) g) T' ∧ IsTable g (m + 1) T' := by
  have hLl := hI.1
  have hlen := h.1
  have e0 : Box (rd g 0 = (a : Int)) := ⟨by rw [ha]; simp [rd]⟩
  intro d
  induction d with
  | zero =>
    intro j T h1 h2 h3
    refine ⟨T, Ev.step (fun k => by rw [impl_table.l0]) ?_, h2, fun i hi => h3 i (by omega)⟩
    exact ev_neg (by omega) (Ev.now _)
  | succ d ih =>
    intro j T h1 h2 h3
    have m0 := Int.emod_nonneg (j : Int) (show (a : Int) ≠ 0 by omega)
    have m1 := Int.emod_lt_of_pos (j : Int) (show (0 : Int) < (a : Int) by omega)
    have hgen := hI.gen hag (by omega) (j : Int)
    have hfull := hI.full hag (by omega) h.2.1 h.2.2.2.1 ((j : Int) % (a : Int)).toNat (by omega)
    have e1 : Box (Int.tmod (j : Int) (a : Int) = (j : Int) % (a : Int)) := ⟨Int.tmod_eq_emod_of_nonneg (by omega)⟩
    have e2 : Box (rd L ((j : Int) % (a : Int)) = L.getD ((j : Int) % (a : Int)).toNat 0) := ⟨rfl⟩
    obtain ⟨T', ht, hT⟩ := ih (j + 1) (T.set j (decide (L.getD ((j : Int) % (a : Int)).toNat 0 ≤ (j : Int)))) (by omega) (by simp [h2]) (fun i hi => by
      rw [getD_set]
      by_cases e : j = i ∧ i < T.length
      · rw [if_pos e]
        obtain ⟨e, _⟩ := e
        subst e
        rw [decide_eq_true_iff, hgen]
        exact ⟨fun hh => ⟨hfull, hh⟩, fun hh => hh.2⟩
      · rw [if_neg e]
        exact h3 i (by omega))
    refine ⟨T', Ev.step (fun k => by rw [impl_table.l0]) ?_, hT⟩
    rw [e0.out, e1.out, e2.out, wadd1 (by omega), Int.toNat_natCast]
    exact ev_pos (by omega) (ev_pos (by omega) (ev_neg (by omega) (ev_pos (by omega) (ev_pos (by omega) (ev_pos (by omega) (ev_pos (by omega) ht))))))
theorem impl_table.ev (g : List Int) (h : SG g) (m : Nat) (hm : m < 1000000000) : ∃ T, Ev (fun k => impl_table.f k g (m : Int)) T ∧ IsTable g (m + 1) T := by
  obtain ⟨hm', hr⟩ := h.head
  have hlen := h.1
  obtain ⟨a, ha⟩ : ∃ a : Nat, (a : Int) = g.getD 0 0 := ⟨(g.getD 0 0).toNat, by omega⟩
  have e0 : Box (rd g 0 = (a : Int)) := ⟨by rw [ha]; simp [rd]⟩
  rw [← ha] at hm' hr
  obtain ⟨L, hL, hI⟩ := impl_leasts.ev g a (by omega) (by omega) h.2.1 (by omega)
  obtain ⟨T, ht, hT⟩ := impl_table.l0_ev g L h a ha (by omega) (by omega) hI hm' m hm (m + 1) 0 (List.replicate (m + 1) false) (by omega) (by simp) (fun i hi => by omega)
  refine ⟨T, ?_, hT⟩
  unfold impl_table.f
  rw [e0.out, wadd1 (by omega)]
  refine ev_pos (by omega) (Ev.bind hL (ev_pos (by omega) (ev_pos (by omega) ?_)))
  simp only [Option.bind_some, Int.toNat_natCast, List.length_replicate]
  exact ht

/-! impl_Gaps -/
theorem impl_Gaps.l0_ev (g : List Int) (n : Nat) (hn : n < 1000000000) (T : List Bool) (hT : IsTable g n T) : ∀ (d j : Nat) (out : List Int), j + d = n → out.length ≤ j → Ev (fun k => impl_Gaps.l0 k out T (n : Int) (j : Int)) (out ++ scanV (fun n => !gB g n) d j) := by
  have hTl := hT.1
  intro d
  induction d with
  | zero =>
    intro j out h1 h2
    refine Ev.step (fun k => by rw [impl_Gaps.l0]) ?_
    rw [scanV, List.append_nil]
    exact ev_neg (by omega) (Ev.now _)
  | succ d ih =>
    intro j out h1 h2
    refine Ev.step (fun k => by rw [impl_Gaps.l0]) ?_
    rw [rdOf_nat, hT.at j (by omega), wadd1 (by omega), scanV_cons]
    refine ev_pos (by omega) (ev_pos (by omega) (ev_pos (by omega) ?_))
    by_cases c : Gen g (j : Int)
    · rw [B_true c, if_neg (fun hc => (nB_iff.1 hc) c), List.nil_append]
      exact ev_pos rfl (ih (j + 1) out (by omega) (by omega))
    · rw [B_false c, if_pos (nB_iff.2 c), ← List.append_assoc]
      exact ev_neg (by simp) (ev_pos (by omega) (ih (j + 1) (out ++ [(j : Int)]) (by omega) (by simp; omega)))
theorem impl_Gaps.ev (g : List Int) (hgl : g.length ≤ 1048576) : Ev (fun k => impl_Gaps.f k g) (if B (SG g) = true then gapsV g else []) := by
  unfold impl_Gaps.f
  refine Ev.bind (impl_IsSemigroup.ev g hgl) ?_
  by_cases h : SG g
  · rw [B_true h]
    obtain ⟨T, ht, hT⟩ := impl_table.ev g h 200 (by omega)
    have hTl := hT.1
    have e : Box ((T.length : Int) = ((201 : Nat) : Int)) := ⟨by rw [hT.1]⟩
    refine ev_pos rfl (Ev.bind ht ?_)
    rw [e.out, if_pos rfl, ← gaps_to_200 h]
    have := impl_Gaps.l0_ev g 201 (by omega) T hT 201 0 [] (by omega) (by simp)
    rwa [List.nil_append] at this
  · rw [B_false h, if_neg (by simp)]
    exact ev_neg (by simp) (Ev.now _)

/-! impl_GapText -/
theorem impl_GapText.ev (g : List Int) (hg : g.length ≤ 1048576) : Ev (fun k => impl_GapText.f k g) (gapB g) := by
  unfold impl_GapText.f gapB
  refine Ev.bind (impl_IsSemigroup.ev g hg) ?_
  by_cases c : B (SG g) = true
  · have h : SG g := B_iff.1 c
    have hl := gapsV_length g
    have hG := impl_Gaps.ev g hg
    rw [if_pos c] at hG
    rw [if_pos c]
    exact ev_pos c (Ev.bind hG (Ev.bind (impl_ListText.ev _ (by omega) (gapsV_wide h)) (Ev.now _)))
  · rw [if_neg c]
    exact ev_neg c (Ev.now _)

/-! spec_l4Gaps -/
theorem spec_l4Gaps.l0_ev (g : List Int) (T : List Bool) (hT : IsTable g 201 T) : ∀ (d j : Nat) (out : List Int), j + d = 200 → out.length ≤ j → Ev (fun k => spec_l4Gaps.l0 k out T (j : Int)) (out ++ scanV (fun n => !gB g n) d j) := by
  have hTl := hT.1
  intro d
  induction d with
  | zero =>
    intro j out h1 h2
    refine Ev.step (fun k => by rw [spec_l4Gaps.l0]) ?_
    rw [scanV, List.append_nil]
    exact ev_neg (by omega) (Ev.now _)
  | succ d ih =>
    intro j out h1 h2
    refine Ev.step (fun k => by rw [spec_l4Gaps.l0]) ?_
    rw [rdOf_nat, hT.at j (by omega), wadd1 (by omega), scanV_cons]
    refine ev_pos (by omega) (ev_pos (by omega) (ev_pos (by omega) ?_))
    by_cases c : Gen g (j : Int)
    · rw [B_true c, if_neg (fun hc => (nB_iff.1 hc) c), List.nil_append]
      exact ev_pos rfl (ih (j + 1) out (by omega) (by omega))
    · rw [B_false c, if_pos (nB_iff.2 c), ← List.append_assoc]
      exact ev_neg (by simp) (ev_pos (by omega) (ih (j + 1) (out ++ [(j : Int)]) (by omega) (by simp; omega)))
theorem spec_l4Gaps.ev (g : List Int) (h : SG g) : Ev (fun k => spec_l4Gaps.f k g) (gapsV g) := by
  obtain ⟨T, ht, hT⟩ := spec_l3Table.ev g h.pos (fun x hx => by have := h.2.1 x hx; omega) (by have := h.1; omega) 200 (by omega)
  unfold spec_l4Gaps.f
  refine Ev.bind ht ?_
  have := spec_l4Gaps.l0_ev g T hT 199 1 [] (by omega) (by simp)
  rwa [List.nil_append, gaps_from_one] at this

/-! spec_Gaps -/
theorem spec_Gaps.ev (g : List Int) (hgl : g.length ≤ 1048576) : Ev (fun k => spec_Gaps.f k g) (if B (SG g) = true then gapsV g else []) := by
  unfold spec_Gaps.f
  refine Ev.bind (spec_IsSemigroup.ev g hgl) ?_
  by_cases h : SG g
  · rw [B_true h, if_pos rfl]
    exact ev_pos rfl (Ev.bind (spec_l4Gaps.ev g h) (Ev.now _))
  · rw [B_false h, if_neg (by simp)]
    exact ev_neg (by simp) (Ev.now _)

/-! spec_GapText -/
theorem spec_GapText.ev (g : List Int) (hg : g.length ≤ 1048576) : Ev (fun k => spec_GapText.f k g) (gapB g) := by
  unfold spec_GapText.f gapB
  refine Ev.bind (spec_IsSemigroup.ev g hg) ?_
  by_cases c : B (SG g) = true
  · have h : SG g := B_iff.1 c
    have hl := gapsV_length g
    have hG := spec_Gaps.ev g hg
    rw [if_pos c] at hG
    rw [if_pos c]
    exact ev_pos c (Ev.bind hG (Ev.bind (spec_ListText.ev _ (by omega) (gapsV_wide h)) (Ev.now _)))
  · rw [if_neg c]
    exact ev_neg c (Ev.now _)

end Go.Proofs.YthednemidaegkaaDoor.PFnTexts
namespace Go.Proofs.YthednemidaegkaaDoor.Pure
open Go.RowKit Go.Proofs.YthednemidaegkaaDoorW.PrintWords Go.Proofs.YthednemidaegkaaDoorW.PrintLast Go.Proofs.YthednemidaegkaaDoorW.PrintMore Go.Proofs.YthednemidaegkaaDoorM
set_option linter.unusedVariables false
set_option linter.unusedSimpArgs false
open Go.Proofs.YthednemidaegkaaDoor.PFnTexts
theorem FnTexts : laws_FnTexts.Pure := by
  intro l0 hl h1 hw
  have hl' : l0.length < 4611686018427387904 := by omega
  refine Ev.rounds ?_
  unfold laws_FnTexts.f laws_big.f
  simp only [Option.bind_some]
  by_cases h : (l0.length : Int) > 1048576
  · exact ev_pos (decide_eq_true h) (Ev.now _)
  · refine ev_neg (by simpa using h) ?_
    obtain ⟨s, hs, hsl⟩ := spec_DrawSemigroupText.ev l0 hl'
    obtain ⟨p, hp, hpl⟩ := spec_DrawParseSemigroup.ev l0 hl'
    have hz := sgB_small s
    have hlen : (parseSV p).1.length ≤ 100000 := by
      by_cases c : (parseSV p).2 = true
      · have := (parseSV_true c).1.1.2
        omega
      · have hh : ¬ (2 ≤ p.size ∧ bt p 0 = 60 ∧ bt p ((p.size - 1 : Nat) : Int) = 62 ∧ (parseLV (midB p)).2 = true ∧ SG (parseLV (midB p)).1) := fun hc => c (by rw [parseSV_yes hc])
        rw [parseSV_no hh]
        exact Nat.zero_le _
    have fin : Ev (fun k => (impl_GapText.f k s).bind fun a => ((spec_GapText.f k s).bind fun b => (some (a.toList == b.toList)))) true := by
      refine Ev.bind (impl_GapText.ev s (by omega)) (Ev.bind (spec_GapText.ev s (by omega)) ?_)
      rw [beq_self_eq_true]
      exact Ev.now _
    have rest : Ev (fun k => if ((parseSV p).2 == (parseSV p).2) = true then ((spec_EqualSemigroup.f k (parseSV p).1 (parseSV p).1).bind fun t655 => (if t655 = true then (if (parseSV p).2 = true then ((impl_SemigroupText.f k (parseSV p).1).bind fun t656 => (if t656.toList = p.toList then ((impl_GapText.f k s).bind fun t657 => ((spec_GapText.f k s).bind fun t658 => (some (t657.toList == t658.toList)))) else (some false))) else ((impl_GapText.f k s).bind fun t659 => ((spec_GapText.f k s).bind fun t660 => (some (t659.toList == t660.toList))))) else (some false))) else (some false)) true := by
      refine ev_pos (by simp) (Ev.bind (spec_EqualSemigroup.ev _ _ (by omega)) ?_)
      rw [B_true rfl]
      refine ev_pos rfl ?_
      by_cases c : (parseSV p).2 = true
      · refine ev_pos c (Ev.bind (impl_SemigroupText.ev _ (by omega)) ?_)
        rw [(parseSV_true c).2]
        exact ev_pos (by trivial) fin
      · exact ev_neg c fin
    refine Ev.bind hs (Ev.bind (impl_SemigroupText.ev s (by omega)) (Ev.bind (impl_ParseSemigroup.ev (sgB s) (by omega)) (Ev.bind hp (Ev.bind (impl_ParseSemigroup.ev p (by omega)) (Ev.bind (spec_ParseSemigroup.ev p (by omega)) (Ev.bind (spec_SemigroupText.ev s (by omega)) (ev_pos (by trivial) (Ev.bind (spec_IsSemigroup.ev s (by omega)) ?_))))))))
    by_cases c : SG s
    · rw [parseSV_text c, B_true c]
      refine ev_pos rfl (ev_pos rfl (Ev.bind (spec_EqualSemigroup.ev _ _ (by simp only []; omega)) ?_))
      rw [B_true rfl]
      exact ev_pos rfl rest
    · rw [(parseSV_none c).2, B_false c]
      exact ev_pos rfl (ev_neg (by simp) rest)

end Go.Proofs.YthednemidaegkaaDoor.Pure
