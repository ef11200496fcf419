/- Lists are parsed from their texts, and the common divisor divides all numbers: for every input. No further condition. -/
import Derived.Test.YthednemidaegkaaGreatDoorPFnListsx1
import Derived.Test.YthednemidaegkaaGreatDoorPFnListsx2
import Derived.Test.YthednemidaegkaaGreatDoorPFnListsx3
import Derived.Test.YthednemidaegkaaGreatDoorPFnListsx11
import Derived.Test.YthednemidaegkaaGreatDoorPFnListsx13
import Derived.Test.YthednemidaegkaaGreatDoorPFnListsx15
import Derived.Test.YthednemidaegkaaGreatDoorPFnListsx17
import Derived.Test.YthednemidaegkaaGreatDoorPFnListsx18
import Derived.Test.YthednemidaegkaaGreatDoorMathFnLists
namespace Go.Proofs.YthednemidaegkaaGreatDoor.PFnLists
open Go.RowKit Go.Proofs.YthednemidaegkaaGreatDoorW.PrintWords Go.Proofs.YthednemidaegkaaGreatDoorW.PrintLast Go.Proofs.YthednemidaegkaaGreatDoorW.PrintMore Go.Proofs.YthednemidaegkaaGreatDoorM
set_option linter.unusedVariables false
set_option linter.unusedSimpArgs false
/-! laws_big -/
theorem laws_big.eq (l : List Int) : laws_big.f l = some (decide ((l.length : Int) > 1048576)) := rfl

/-! spec_l1New -/
theorem spec_l1New.l0_ev (l : List Int) (hl : l.length < 4611686018427387904) : ∀ (d j : Nat) (h : Int), j + d = l.length → ∃ h', Ev (fun k => spec_l1New.l0 k l h (j : Int)) (l, 0, h') := by
  intro d
  induction d with
  | zero =>
    intro j h g1
    refine ⟨h, Ev.step (fun k => by rw [spec_l1New.l0]) ?_⟩
    exact ev_neg (by omega) (Ev.now _)
  | succ d ih =>
    intro j h g1
    by_cases c : (j : Int) < 4000
    · obtain ⟨h', hh⟩ := ih (j + 1) (Go.bits .and .i64 (wrap64 ((wrap64 ((wrap64 (h * 131)) + (wrap64 (rd l (j : Int))))) + 7)) 1073741823) (by omega)
      refine ⟨h', Ev.step (fun k => by rw [spec_l1New.l0]) ?_⟩
      rw [wadd1 (j := j) (by omega)]
      exact ev_pos (by omega) (ev_pos c (ev_pos (by omega) hh))
    · refine ⟨h, Ev.step (fun k => by rw [spec_l1New.l0]) ?_⟩
      exact ev_pos (by omega) (ev_neg c (Ev.now _))
theorem spec_l1New.ev (l : List Int) (hl : l.length < 4611686018427387904) : ∃ h, Ev (fun k => spec_l1New.f k l) (l, 0, h) := by
  unfold spec_l1New.f
  exact spec_l1New.l0_ev l hl l.length 0 _ (by omega)

/-! spec_l1Byte -/
theorem spec_l1Byte.eq (s : List Int) (hs : s.length < 4611686018427387904) (i : Int) (hi : 0 ≤ i) (h : Int) : ∃ x i' h', spec_l1Byte.f s i h = some (x, i', h') ∧ (0 ≤ x ∧ x ≤ 255) ∧ 0 ≤ i' := by
  unfold spec_l1Byte.f
  by_cases c : i < (s.length : Int)
  · rw [if_pos c, if_pos hi]
    have e : wrap64 (i + 1) = i + 1 := w64 (by omega) (by omega)
    exact ⟨_, _, _, rfl, and255 _, by rw [e]; omega⟩
  · rw [if_neg c]
    exact ⟨_, _, _, rfl, and255 _, hi⟩

/-! spec_l1Below -/
theorem tmod_range {x n : Int} (hx : 0 ≤ x) (hn : 1 ≤ n) : 0 ≤ Int.tmod x n ∧ Int.tmod x n < n := by
  rw [Int.tmod_eq_emod_of_nonneg hx]
  exact ⟨Int.emod_nonneg _ (by omega), Int.emod_lt_of_pos _ (by omega)⟩
theorem spec_l1Below.eq (s : List Int) (hs : s.length < 4611686018427387904) (i : Int) (hi : 0 ≤ i) (h n : Int) (hn : 1 ≤ n) : ∃ x i' h', spec_l1Below.f s i h n = some (x, i', h') ∧ (0 ≤ x ∧ x < n) ∧ 0 ≤ i' := by
  unfold spec_l1Below.f
  rw [if_neg (by omega)]
  obtain ⟨x, i1, h1, e1, hx, hi1⟩ := spec_l1Byte.eq s hs i hi h
  by_cases c : n ≤ 256
  · rw [if_pos c, e1]
    simp only [Option.bind_some]
    rw [if_neg (by omega)]
    exact ⟨_, _, _, rfl, tmod_range hx.1 hn, hi1⟩
  · rw [if_neg c, e1]
    simp only [Option.bind_some]
    obtain ⟨y, i2, h2, e2, hy, hi2⟩ := spec_l1Byte.eq s hs i1 hi1 h1
    rw [e2]
    simp only [Option.bind_some]
    obtain ⟨z, i3, h3, e3, hz, hi3⟩ := spec_l1Byte.eq s hs i2 hi2 h2
    rw [e3]
    simp only [Option.bind_some]
    obtain ⟨v, i4, h4, e4, hv, hi4⟩ := spec_l1Byte.eq s hs i3 hi3 h3
    rw [e4]
    simp only [Option.bind_some]
    rw [if_neg (by omega)]
    have a1 : wrap64 (x * 16777216) = x * 16777216 := w64 (by omega) (by omega)
    have a2 : wrap64 (y * 65536) = y * 65536 := w64 (by omega) (by omega)
    have a3 : wrap64 (z * 256) = z * 256 := w64 (by omega) (by omega)
    rw [a1, a2, a3]
    have a4 : wrap64 (x * 16777216 + y * 65536) = x * 16777216 + y * 65536 := w64 (by omega) (by omega)
    rw [a4]
    have a5 : wrap64 (x * 16777216 + y * 65536 + z * 256) = x * 16777216 + y * 65536 + z * 256 := w64 (by omega) (by omega)
    rw [a5]
    have a6 : wrap64 (x * 16777216 + y * 65536 + z * 256 + v) = x * 16777216 + y * 65536 + z * 256 + v := w64 (by omega) (by omega)
    rw [a6]
    exact ⟨_, _, _, rfl, tmod_range (by omega) hn, hi4⟩

/-! spec_l1Once -/
theorem spec_l1Once.eq (s : List Int) (hs : s.length < 4611686018427387904) (i : Int) (hi : 0 ≤ i) (h n : Int) (hn : 1 ≤ n) : ∃ b i' h', spec_l1Once.f s i h n = some (b, i', h') ∧ 0 ≤ i' := by
  obtain ⟨x, i1, h1, e1, hx, hi1⟩ := spec_l1Below.eq s hs i hi h n hn
  unfold spec_l1Once.f
  rw [e1]
  exact ⟨_, _, _, rfl, hi1⟩

/-! spec_l1PickInt -/
theorem spec_l1PickInt.eq (s : List Int) (hs : s.length < 4611686018427387904) (i : Int) (hi : 0 ≤ i) (h : Int) (l : List Int) (hl : 1 ≤ l.length) : ∃ x i' h', spec_l1PickInt.f s i h l = some (x, i', h') ∧ x ∈ l ∧ 0 ≤ i' := by
  obtain ⟨x, i1, h1, e1, hx, hi1⟩ := spec_l1Below.eq s hs i hi h (l.length : Int) (by omega)
  unfold spec_l1PickInt.f
  rw [e1]
  simp only [Option.bind_some]
  rw [if_pos hx.1, if_pos hx.2]
  refine ⟨_, _, _, rfl, ?_, hi1⟩
  obtain ⟨m, rfl⟩ : ∃ m : Nat, x = (m : Int) := ⟨x.toNat, by omega⟩
  rw [rd_nat]
  exact getD_mem (by omega)

/-! spec_DrawGcdOf -/
theorem spec_DrawGcdOf.ev (l : List Int) (hl : l.length < 4611686018427387904) : ∃ a b, Ev (fun k => spec_DrawGcdOf.f k l) (a, b) := by
  obtain ⟨h, hh⟩ := spec_l1New.ev l hl
  obtain ⟨x, i1, h1, e1, hx, hi1⟩ := spec_l1Below.eq l hl 0 (by omega) h 200 (by omega)
  obtain ⟨y, i2, h2, e2, hy, hi2⟩ := spec_l1Below.eq l hl i1 hi1 h1 200 (by omega)
  obtain ⟨b, i3, h3, e3, hi3⟩ := spec_l1Once.eq l hl i2 hi2 h2 10 (by omega)
  unfold spec_DrawGcdOf.f
  by_cases c : b = true
  · obtain ⟨z, i4, h4, e4, hz, hi4⟩ := spec_l1PickInt.eq l hl i3 hi3 h3 [1000000, 1000001, (-1000001), (-9223372036854775808)] (by simp)
    refine ⟨wrap64 (x - 60), z, Ev.bind hh ?_⟩
    simp only []
    rw [e1]
    simp only [Option.bind_some]
    rw [e2]
    simp only [Option.bind_some]
    rw [e3]
    simp only [Option.bind_some]
    refine ev_pos c ?_
    rw [e4]
    exact Ev.now _
  · refine ⟨wrap64 (x - 60), wrap64 (y - 60), Ev.bind hh ?_⟩
    simp only []
    rw [e1]
    simp only [Option.bind_some]
    rw [e2]
    simp only [Option.bind_some]
    rw [e3]
    simp only [Option.bind_some]
    exact ev_neg c (Ev.now _)

/-! impl_within -/
theorem impl_within.eq (a b c : Int) : impl_within.f a b c = some (decide (b ≤ a ∧ a ≤ c)) := by
  unfold impl_within.f
  by_cases h : b ≤ a <;> simp [h]

/-! impl_allWithin -/
theorem impl_allWithin.l0_ev (l : List Int) (lo hi : Int) (hl : l.length < 4611686018427387904) : ∀ (d j : Nat), j + d = l.length → Ev (fun k => impl_allWithin.l0 k lo hi l (l.length : Int) (j : Int)) (B (∀ x ∈ l.drop j, lo ≤ x ∧ x ≤ hi)) := by
  intro d
  induction d with
  | zero =>
    intro j h1
    refine Ev.step (fun k => by rw [impl_allWithin.l0]) ?_
    rw [B_true (by rw [List.drop_of_length_le (by omega)]; simp)]
    exact ev_neg (by omega) (Ev.now _)
  | succ d ih =>
    intro j h1
    have hj : j < l.length := by omega
    refine Ev.step (fun k => by rw [impl_allWithin.l0]) ?_
    rw [wadd1 (by omega), rd_nat, getD_get hj, List.drop_eq_getElem_cons hj, impl_within.eq]
    simp only [Option.bind_some]
    refine ev_pos (by omega) (ev_pos (by omega) (ev_pos (by omega) ?_))
    by_cases e : lo ≤ l[j] ∧ l[j] ≤ hi
    · refine ev_pos (decide_eq_true e) ?_
      rw [B_congr (q := ∀ x ∈ l.drop (j + 1), lo ≤ x ∧ x ≤ hi) (by simp only [List.forall_mem_cons, e.1, e.2, and_self, true_and])]
      exact ih (j + 1) (by omega)
    · refine ev_neg (by simpa using e) ?_
      rw [B_false (fun h => e (h _ List.mem_cons_self))]
      exact Ev.now _
theorem impl_allWithin.ev (l : List Int) (lo hi : Int) (hl : l.length < 4611686018427387904) : Ev (fun k => impl_allWithin.f k l lo hi) (B (∀ x ∈ l, lo ≤ x ∧ x ≤ hi)) := by
  unfold impl_allWithin.f
  exact impl_allWithin.l0_ev l lo hi hl l.length 0 (by omega)

/-! impl_GcdOf -/
theorem impl_GcdOf.l0_ev : ∀ (m n : Nat), Ev (fun k => impl_GcdOf.l0 k (m : Int) (n : Int)) ((Nat.gcd m n : Nat) : Int) := by
  intro m
  induction m using Nat.strongRecOn with
  | _ m ih =>
    intro n
    refine Ev.step (fun k => by rw [impl_GcdOf.l0]) ?_
    by_cases e : m = 0
    · subst e
      rw [Nat.gcd_zero_left]
      exact ev_pos (by omega) (Ev.now _)
    · refine ev_neg (by omega) ?_
      rw [← Int.ofNat_tmod, Nat.gcd_rec m n]
      exact ih (n % m) (Nat.mod_lt _ (by omega)) m
theorem impl_GcdOf.ev (a b : Int) : Ev (fun k => impl_GcdOf.f k a b) (gcdV a b) := by
  unfold impl_GcdOf.f
  refine Ev.bind (impl_allWithin.ev [a, b] (-1000000) 1000000 (by simp)) ?_
  by_cases h : (-1000000 ≤ a ∧ a ≤ 1000000) ∧ (-1000000 ≤ b ∧ b ≤ 1000000)
  · rw [B_true (by simpa using h), gcdV, if_pos h, mx_abs h.1.1 h.1.2, mx_abs h.2.1 h.2.2]
    exact ev_pos rfl (impl_GcdOf.l0_ev _ _)
  · rw [B_false (by simpa using h), gcdV, if_neg h]
    exact ev_neg (by simp) (Ev.now _)

/-! spec_l2Draw -/
theorem spec_l2Draw.l0_ev (s : List Int) (hs : s.length < 4611686018427387904) (n : Int) (hn : n ≤ 1000) : ∀ (d j : Nat) (acc : List Int) (i h : Int), 0 ≤ i → acc.length = j → n ≤ (j : Int) + d → j + d ≤ 1000 → ∃ l i' h', Ev (fun k => spec_l2Draw.l0 k acc n (j : Int) s i h) (l, i', h') ∧ l.length ≤ 1000 ∧ (∀ x ∈ l, x ∈ acc ∨ (-4 ≤ x ∧ x ≤ 20)) ∧ 0 ≤ i' := by
  intro d
  induction d with
  | zero =>
    intro j acc i h hi h1 h2 h3
    refine ⟨acc, i, h, Ev.step (fun k => by rw [spec_l2Draw.l0]) ?_, by omega, fun x hx => .inl hx, hi⟩
    exact ev_neg (by omega) (Ev.now _)
  | succ d ih =>
    intro j acc i h hi h1 h2 h3
    by_cases c : (j : Int) < n
    · obtain ⟨x, i1, h1', e1, hx, hi1⟩ := spec_l1Below.eq s hs i hi h 25 (by omega)
      obtain ⟨l, i2, h2', e2, hl, hm, hi2⟩ := ih (j + 1) (acc ++ [wrap64 (x - 4)]) i1 h1' hi1 (by rw [List.length_append, List.length_singleton]; omega) (by omega) (by omega)
      refine ⟨l, i2, h2', Ev.step (fun k => by rw [spec_l2Draw.l0]) ?_, hl, ?_, hi2⟩
      · rw [e1, wadd1 (j := j) (by omega)]
        simp only [Option.bind_some]
        exact ev_pos c (ev_pos (by omega) e2)
      · intro y hy
        rcases hm y hy with hy | hy
        · rw [List.mem_append, List.mem_singleton] at hy
          rcases hy with hy | hy
          · exact .inl hy
          · rw [w64 (by omega) (by omega)] at hy
            exact .inr (by omega)
        · exact .inr hy
    · refine ⟨acc, i, h, Ev.step (fun k => by rw [spec_l2Draw.l0]) ?_, by omega, fun x hx => .inl hx, hi⟩
      exact ev_neg c (Ev.now _)
theorem spec_l2Draw.ev (s : List Int) (hs : s.length < 4611686018427387904) (i : Int) (hi : 0 ≤ i) (h : Int) : ∃ l i' h', Ev (fun k => spec_l2Draw.f k s i h) (l, i', h') ∧ l.length ≤ 1000 ∧ (∀ x ∈ l, -4 ≤ x ∧ x ≤ 20) ∧ 0 ≤ i' := by
  obtain ⟨n, i1, h1, e1, hn, hi1⟩ := spec_l1Below.eq s hs i hi h 6 (by omega)
  obtain ⟨l, i2, h2, e2, hl, hm, hi2⟩ := spec_l2Draw.l0_ev s hs n (by omega) 6 0 [] i1 h1 hi1 rfl (by omega) (by omega)
  refine ⟨l, i2, h2, ?_, hl, fun x hx => (hm x hx).resolve_left (by simp), hi2⟩
  unfold spec_l2Draw.f
  rw [e1]
  simp only [Option.bind_some]
  exact e2

/-! spec_l2Bent -/
theorem spec_l2Bent.ev (s : List Int) (hs : s.length < 4611686018427387904) (i : Int) (hi : 0 ≤ i) (h : Int) : ∃ l i' h', Ev (fun k => spec_l2Bent.f k s i h) (l, i', h') ∧ l.length ≤ 1001 ∧ 0 ≤ i' := by
  obtain ⟨l, i1, h1, e1, hl, hx, hi1⟩ := spec_l2Draw.ev s hs i hi h
  obtain ⟨b, i2, h2, e2, hi2⟩ := spec_l1Once.eq s hs i1 hi1 h1 8 (by omega)
  unfold spec_l2Bent.f
  by_cases c : b = true
  · obtain ⟨y, i3, h3, e3, hy, hi3⟩ := spec_l1PickInt.eq s hs i2 hi2 h2 [1000000, 1000001, (-1000001), (-9223372036854775808)] (by simp)
    refine ⟨l ++ [y], i3, h3, Ev.bind e1 ?_, by rw [List.length_append, List.length_singleton]; omega, hi3⟩
    simp only []
    rw [e2]
    simp only [Option.bind_some]
    refine ev_pos c ?_
    rw [e3]
    simp only [Option.bind_some]
    exact ev_pos (by omega) (Ev.now _)
  · refine ⟨l, i2, h2, Ev.bind e1 ?_, by omega, hi2⟩
    simp only []
    rw [e2]
    simp only [Option.bind_some]
    exact ev_neg c (Ev.now _)

/-! spec_DrawSortList -/
theorem spec_DrawSortList.ev (l : List Int) (hl : l.length < 4611686018427387904) : ∃ r, Ev (fun k => spec_DrawSortList.f k l) r ∧ r.length ≤ 1001 := by
  obtain ⟨h, hh⟩ := spec_l1New.ev l hl
  obtain ⟨r, i1, h1, e1, hr, hi1⟩ := spec_l2Bent.ev l hl 0 (by omega) h
  refine ⟨r, ?_, hr⟩
  unfold spec_DrawSortList.f
  exact Ev.bind hh (Ev.bind e1 (Ev.now _))

/-! spec_DrawSumsOf -/
theorem spec_DrawSumsOf.ev (l : List Int) (hl : l.length < 4611686018427387904) : ∃ a b, Ev (fun k => spec_DrawSumsOf.f k l) (a, b) ∧ a.length ≤ 1001 ∧ b.length ≤ 1001 := by
  obtain ⟨h, hh⟩ := spec_l1New.ev l hl
  obtain ⟨a, i1, h1, e1, ha, hi1⟩ := spec_l2Bent.ev l hl 0 (by omega) h
  obtain ⟨b, i2, h2, e2, hb, hi2⟩ := spec_l2Bent.ev l hl i1 hi1 h1
  refine ⟨a, b, ?_, ha, hb⟩
  unfold spec_DrawSumsOf.f
  exact Ev.bind hh (Ev.bind e1 (Ev.bind e2 (Ev.now _)))

/-! spec_DrawSharedOf -/
theorem spec_DrawSharedOf.ev (l : List Int) (hl : l.length < 4611686018427387904) : ∃ a b, Ev (fun k => spec_DrawSharedOf.f k l) (a, b) ∧ a.length ≤ 1000 ∧ b.length ≤ 1000 := by
  obtain ⟨h, hh⟩ := spec_l1New.ev l hl
  obtain ⟨a, i1, h1, e1, ha, hx, hi1⟩ := spec_l2Draw.ev l hl 0 (by omega) h
  obtain ⟨b, i2, h2, e2, hb, hy, hi2⟩ := spec_l2Draw.ev l hl i1 hi1 h1
  refine ⟨a, b, ?_, ha, hb⟩
  unfold spec_DrawSharedOf.f
  exact Ev.bind hh (Ev.bind e1 (Ev.bind e2 (Ev.now _)))

/-! spec_DrawHasNumber -/
theorem spec_DrawHasNumber.ev (l : List Int) (hl : l.length < 4611686018427387904) : ∃ a n, Ev (fun k => spec_DrawHasNumber.f k l) (a, n) ∧ a.length ≤ 1000 := by
  obtain ⟨h, hh⟩ := spec_l1New.ev l hl
  obtain ⟨a, i1, h1, e1, ha, hx, hi1⟩ := spec_l2Draw.ev l hl 0 (by omega) h
  obtain ⟨x, i2, h2, e2, hx, hi2⟩ := spec_l1Below.eq l hl i1 hi1 h1 25 (by omega)
  refine ⟨a, wrap64 (x - 4), ?_, ha⟩
  unfold spec_DrawHasNumber.f
  refine Ev.bind hh (Ev.bind e1 ?_)
  simp only []
  rw [e2]
  exact Ev.now _

/-! spec_SortList -/
theorem spec_SortList.l0_ev (l : List Int) (hl : l.length ≤ 1000000000) : ∀ (d j : Nat) (s : List Int), j + d = l.length → s.length ≤ j → IsSort (l.take j) s → ∃ r, Ev (fun k => spec_SortList.l0 k l s (j : Int)) r ∧ IsSort l r ∧ r.length ≤ l.length := by
  intro d
  induction d with
  | zero =>
    intro j s h1 h2 h3
    rw [List.take_of_length_le (by omega)] at h3
    refine ⟨s, Ev.step (fun k => by rw [spec_SortList.l0]) ?_, h3, by omega⟩
    exact ev_neg (by omega) (Ev.now _)
  | succ d ih =>
    intro j s h1 h2 h3
    have hj : j < l.length := by omega
    have same : Box (l[j] ∈ s → ∃ r, Ev (fun k => spec_SortList.l0 k l s (wrap64 ((j : Int) + 1))) r ∧ IsSort l r ∧ r.length ≤ l.length) := Box.mk <| by
      intro hm
      rw [wadd1 (by omega)]
      refine ih (j + 1) s (by omega) (by omega) ⟨h3.1, fun x => ?_⟩
      rw [List.take_succ_eq_append_getElem hj, List.mem_append, List.mem_singleton, ← h3.2]
      constructor
      · intro h; exact .inl h
      · rintro (h | h)
        · exact h
        · rw [h]; exact hm
    have inner : ∀ (b : Nat), b ≤ s.length → (∀ i, b ≤ i → i < s.length → l[j] < s.getD i 0) → ∃ r, Ev (fun k => spec_SortList.l1 k l s (j : Int) (b : Int)) r ∧ IsSort l r ∧ r.length ≤ l.length := by
      have put : ∀ b : Nat, b ≤ s.length → (0 < b → s.getD (b - 1) 0 < l[j]) → (∀ i, b ≤ i → i < s.length → l[j] < s.getD i 0) → ∃ r, Ev (fun k => spec_SortList.l0 k l (s.take b ++ [l[j]] ++ ([] ++ s.drop b)) (wrap64 ((j : Int) + 1))) r ∧ IsSort l r ∧ r.length ≤ l.length := by
        intro b hb hlo hhi
        obtain ⟨p1, p2⟩ := insert_sorted h3.1 b hb l[j] hlo hhi
        rw [wadd1 (by omega), List.nil_append]
        refine ih (j + 1) _ (by omega) (by simp; omega) ⟨p1, fun x => ?_⟩
        rw [p2, List.take_succ_eq_append_getElem hj, List.mem_append, List.mem_singleton, h3.2]
      intro b
      induction b with
      | zero =>
        intro hb hhi
        obtain ⟨r, hr, hs, hl'⟩ := put 0 (by omega) (fun h => by omega) hhi
        refine ⟨r, Ev.step (fun k => by rw [spec_SortList.l1]) ?_, hs, hl'⟩
        simp only [Option.bind_some, rd_nat, getD_get hj]
        exact ev_neg (by omega) (ev_pos (by omega) (ev_pos (by omega) (ev_pos (by simp; omega) (ev_pos (by omega) (ev_pos (by omega) (ev_pos (by simp) (ev_pos (by simp; omega) hr)))))))
      | succ b ihb =>
        intro hb hhi
        have e1 : wrap64 (((b + 1 : Nat) : Int) - 1) = (b : Int) := by rw [w64 (by omega) (by omega)]; omega
        by_cases c1 : s.getD b 0 > l[j]
        · obtain ⟨r, hr, hs, hl'⟩ := ihb (by omega) (fun i i1 i2 => by
            by_cases e : i = b
            · subst e; omega
            · exact hhi i (by omega) i2)
          refine ⟨r, Ev.step (fun k => by rw [spec_SortList.l1]) ?_, hs, hl'⟩
          rw [e1, rd_nat, rd_nat, getD_get hj]
          exact ev_pos (by omega) (ev_pos (by omega) (ev_pos (by omega) (ev_pos (by omega) (ev_pos (by omega) (ev_pos c1 hr)))))
        · by_cases c2 : s.getD b 0 = l[j]
          · obtain ⟨r, hr, hs, hl'⟩ := same.out (by rw [← c2]; exact getD_mem (by omega))
            refine ⟨r, Ev.step (fun k => by rw [spec_SortList.l1]) ?_, hs, hl'⟩
            rw [e1, rd_nat, rd_nat, getD_get hj]
            exact ev_pos (by omega) (ev_pos (by omega) (ev_pos (by omega) (ev_pos (by omega) (ev_pos (by omega) (ev_neg c1 (ev_pos c2 hr))))))
          · obtain ⟨r, hr, hs, hl'⟩ := put (b + 1) (by omega) (fun _ => by rw [Nat.add_sub_cancel]; omega) hhi
            refine ⟨r, Ev.step (fun k => by rw [spec_SortList.l1]) ?_, hs, hl'⟩
            simp only [Option.bind_some]
            rw [e1, rd_nat, rd_nat, getD_get hj, Int.toNat_natCast]
            exact ev_pos (by omega) (ev_pos (by omega) (ev_pos (by omega) (ev_pos (by omega) (ev_pos (by omega) (ev_neg c1 (ev_neg c2 (ev_pos (by omega) (ev_pos (by omega) (ev_pos (by simp; omega) (ev_pos (by simp; omega) (ev_pos (by simp; omega) hr)))))))))))
    obtain ⟨r, hr, hs, hl'⟩ := inner s.length (by omega) (fun i i1 i2 => by omega)
    refine ⟨r, Ev.step (fun k => by rw [spec_SortList.l0]) ?_, hs, hl'⟩
    exact ev_pos (by omega) hr
theorem spec_SortList.ev (l : List Int) (hl : l.length ≤ 1000000000) : ∃ r, Ev (fun k => spec_SortList.f k l) r ∧ IsSort l r ∧ r.length ≤ l.length := by
  unfold spec_SortList.f
  exact spec_SortList.l0_ev l hl l.length 0 [] (by omega) (by simp) ⟨.nil, by simp⟩

/-! spec_DrawIsAscending -/
theorem spec_DrawIsAscending.ev (l : List Int) (hl : l.length < 4611686018427387904) : ∃ a, Ev (fun k => spec_DrawIsAscending.f k l) a ∧ a.length ≤ 1000 := by
  obtain ⟨h, hh⟩ := spec_l1New.ev l hl
  obtain ⟨a, i1, h1, e1, ha, hx, hi1⟩ := spec_l2Draw.ev l hl 0 (by omega) h
  obtain ⟨b, i2, h2, e2, hi2⟩ := spec_l1Once.eq l hl i1 hi1 h1 2 (by omega)
  by_cases c : b = true
  · obtain ⟨r, hr, hr2, hr3⟩ := spec_SortList.ev a (by omega)
    refine ⟨r, ?_, by omega⟩
    unfold spec_DrawIsAscending.f
    refine Ev.bind hh (Ev.bind e1 ?_)
    simp only []
    rw [e2]
    simp only [Option.bind_some]
    exact ev_pos c (Ev.bind hr (Ev.now _))
  · refine ⟨a, ?_, ha⟩
    unfold spec_DrawIsAscending.f
    refine Ev.bind hh (Ev.bind e1 ?_)
    simp only []
    rw [e2]
    simp only [Option.bind_some]
    exact ev_neg c (Ev.now _)

/-! impl_SortList -/
theorem impl_SortList.eq (l : List Int) (hl : l.length ≤ 1000000000) : ∃ r, impl_SortList.f l = some r ∧ IsSort l r ∧ r.length ≤ l.length := by
  refine ⟨_, by unfold impl_SortList.f; rw [if_pos hl], sort_compact l, ?_⟩
  have := Lib.compact_length_le (l.mergeSort fun x y => decide (x ≤ y))
  rwa [List.length_mergeSort] at this

/-! spec_FormatInt -/
theorem spec_FormatInt.l0_ev : ∀ (n : Nat) (x : Int) (neg : Bool) (s : List UInt8), x.natAbs = n → -9223372036854775808 ≤ x → x ≤ 9223372036854775807 → (s.length + (digs n).length ≤ 100) → Ev (fun k => spec_FormatInt.l0 k x neg ⟨s.toArray⟩) ⟨((if neg = true then [45] else []) ++ (digs n ++ s)).toArray⟩ := by
  intro n
  induction n using Nat.strongRecOn with
  | _ n ih =>
    intro x neg s hx hlo hhi hs
    refine Ev.step (fun k => by rw [spec_FormatInt.l0]) ?_
    by_cases e : x = 0
    · refine ev_pos e ?_
      obtain rfl : n = 0 := by omega
      cases neg with
      | false => exact ev_neg (by simp) (Ev.now _)
      | true =>
        refine ev_pos rfl (ev_pos (by rw [ba_size]; omega) ?_)
        have : (⟨#[45]⟩ : ByteArray) ++ (⟨s.toArray⟩ : ByteArray) = ⟨(([45] : List UInt8) ++ (digs 0 ++ s)).toArray⟩ := ba_append [45] s
        rw [this]
        exact Ev.now _
    · have hn : 0 < n := by omega
      have hl : (digs n).length = (digs (n / 10)).length + 1 := by rw [digs_step hn]; simp
      have hd : (Int.tdiv x 10).natAbs = n / 10 := by rw [Int.natAbs_tdiv, hx]; rfl
      have hb : -9223372036854775808 ≤ Int.tdiv x 10 ∧ Int.tdiv x 10 ≤ 9223372036854775807 := by omega
      have hr : (Int.tmod x 10).natAbs = n % 10 := by rw [Int.natAbs_tmod, hx]; rfl
      have hw : wrap64 (Int.tdiv x 10) = Int.tdiv x 10 := w64 hb.1 hb.2
      have go := ih (n / 10) (by omega) (Int.tdiv x 10) neg (UInt8.ofNat (48 + n % 10) :: s) hd hb.1 hb.2 (by rw [List.length_cons]; omega)
      have e2 : digs (n / 10) ++ UInt8.ofNat (48 + n % 10) :: s = digs n ++ s := by rw [digs_step hn]; simp
      rw [e2] at go
      have one : ∀ z : Int, z = ((48 + n % 10 : Nat) : Int) → strOfNums [z] ++ (⟨s.toArray⟩ : ByteArray) = ⟨(UInt8.ofNat (48 + n % 10) :: s).toArray⟩ := fun z hz => by
        rw [hz, strOfNums_one _ (by omega), ba_append]; rfl
      have sz : ∀ z : Int, z = ((48 + n % 10 : Nat) : Int) → (strOfNums [z]).size = 1 := fun z hz => by
        rw [hz, strOfNums_one _ (by omega), ba_size]; rfl
      refine ev_neg e ?_
      by_cases hm : Int.tmod x 10 < 0
      · have h1 : wrap64 (48 + wrap64 (-Int.tmod x 10)) % 256 = ((48 + n % 10 : Nat) : Int) := by
          rw [w64 (n := -Int.tmod x 10) (by omega) (by omega), w64 (by omega) (by omega)]
          omega
        refine ev_pos hm ?_
        simp only [Option.bind_some]
        rw [hw, one _ h1, sz _ h1]
        exact ev_pos (by rw [ba_size]; omega) go
      · have h1 : wrap64 (48 + Int.tmod x 10) % 256 = ((48 + n % 10 : Nat) : Int) := by
          rw [w64 (by omega) (by omega)]
          omega
        refine ev_neg hm ?_
        simp only [Option.bind_some]
        rw [hw, one _ h1, sz _ h1]
        exact ev_pos (by rw [ba_size]; omega) go
theorem spec_FormatInt.ev (x : Int) (h : -9223372036854775808 ≤ x) (h' : x ≤ 9223372036854775807) : Ev (fun k => spec_FormatInt.f k x) (itoaB x) := by
  unfold spec_FormatInt.f
  by_cases e : x = 0
  · subst e
    have : itoaB 0 = ⟨#[48]⟩ := by simp [itoaB, Lib.itoa, Lib.decDigits]
    rw [this]
    exact ev_pos rfl (Ev.now _)
  · refine ev_neg e ?_
    have := digs_length x.natAbs (by omega)
    have go := spec_FormatInt.l0_ev x.natAbs x (decide (x < 0)) [] rfl h h' (by simp; omega)
    rw [itoaB_of x e]
    simp only [List.append_nil, decide_eq_true_eq] at go
    exact go

/-! spec_Join -/
theorem spec_Join.l0_ev (l : List ByteArray) (b : ByteArray) (hl : l.length ≤ 1048576) (hb : b.size ≤ 1048576) (hs : Lib.lens (l.map (·.data.toList)) ≤ 1000000000) : ∀ (d j : Nat), j + d = l.length → Ev (fun k => spec_Join.l0 k l b (bnums (joinK l b j)) (j : Int)) ⟨(joinK l b l.length).toArray⟩ := by
  have hm : b.size * l.length ≤ 1048576 * 1048576 := Nat.mul_le_mul hb hl
  have sz : ∀ j (hj : j < l.length), (l[j]).size ≤ 1000000000 := fun j hj => by
    have h1 := Lib.lens_take_succ (l.map (·.data.toList)) j (l[j]).data.toList (by simp [hj])
    have h2 := Lib.lens_take_le (l.map (·.data.toList)) (j + 1)
    have h3 : (l[j]).data.toList.length = (l[j]).size := data_length _
    omega
  intro d
  induction d with
  | zero =>
    intro j h1
    obtain rfl : j = l.length := by omega
    refine Ev.step (fun k => by rw [spec_Join.l0]) ?_
    refine ev_neg (by omega) ?_
    rw [strOfNums_bnums]
    exact Ev.now _
  | succ d ih =>
    intro j h1
    have hj : j < l.length := by omega
    have hk := joinK_length l b j
    have hn := ih (j + 1) (by omega)
    have e0 : l.getD j ByteArray.empty = l[j] := by simp [List.getD_eq_getElem?_getD, hj]
    have hx := sz j hj
    have hnl := bnums_length (joinK l b j)
    have hbl := bytesOf_length b
    refine Ev.step (fun k => by rw [spec_Join.l0]) ?_
    rw [wadd1 (j := j) (by omega), rdOf_nat, e0]
    refine ev_pos (by omega) ?_
    by_cases c : j = 0
    · subst c
      refine ev_neg (by omega) (ev_pos (by omega) (ev_pos (by omega) ?_))
      rw [joinK_zero, bnums_bytes]
      rw [joinK_one b hj] at hn
      exact hn
    · refine ev_pos (by omega) (ev_pos (by omega) ?_)
      simp only [Option.bind_some]
      refine ev_pos (by omega) (ev_pos (by rw [List.length_append]; omega) ?_)
      rw [joinK_succ b (by omega) hj, bnums_append, bnums_append] at hn
      rw [bnums_bytes, bnums_bytes]
      exact hn
theorem spec_Join.evB (l : List ByteArray) (b : ByteArray) (hl : l.length ≤ 1048576) (hb : b.size ≤ 1048576) (hs : Lib.lens (l.map (·.data.toList)) ≤ 1000000000) : Ev (fun k => spec_Join.f k l b) ⟨(Lib.join (l.map (·.data.toList)) b.data.toList).toArray⟩ := by
  have := spec_Join.l0_ev l b hl hb hs l.length 0 (by omega)
  unfold joinK at this
  rw [List.take_length] at this
  unfold spec_Join.f
  exact this
theorem spec_Join.ev (l : List ByteArray) (b : ByteArray) (hl : l.length ≤ 1048576) (hb : b.size ≤ 1048576) (hs : Lib.lens (l.map (·.data.toList)) ≤ 1048576) : Ev (fun k => spec_Join.f k l b) ⟨(Lib.join (l.map (·.data.toList)) b.data.toList).toArray⟩ := spec_Join.evB l b hl hb (by omega)

/-! spec_ListText -/
theorem spec_ListText.l0_ev (l : List Int) (hl : l.length ≤ 1048576) (hw : ∀ x ∈ l, -9223372036854775808 ≤ x ∧ x ≤ 9223372036854775807) : ∀ (d j : Nat), j + d = l.length → Ev (fun k => spec_ListText.l0 k l ((l.take j).map itoaB) (j : Int)) ⟨(Lib.join ((l.map itoaB).map (·.data.toList)) [44]).toArray⟩ := by
  intro d
  induction d with
  | zero =>
    intro j h1
    obtain rfl : j = l.length := by omega
    refine Ev.step (fun k => by rw [spec_ListText.l0]) ?_
    refine ev_neg (by omega) ?_
    rw [List.take_length]
    have hz := lens_texts l hw
    exact Ev.bind (spec_Join.evB (l.map itoaB) ⟨#[44]⟩ (by simpa using hl) (by decide) (by omega)) (Ev.now _)
  | succ d ih =>
    intro j h1
    have hj : j < l.length := by omega
    have hn := ih (j + 1) (by omega)
    have hm := hw _ (getD_mem hj)
    refine Ev.step (fun k => by rw [spec_ListText.l0]) ?_
    rw [wadd1 (j := j) (by omega), rd_nat]
    refine ev_pos (by omega) (ev_pos (by omega) (Ev.bind (spec_FormatInt.ev _ hm.1 hm.2) (ev_pos (by simp; omega) ?_)))
    rw [List.take_succ_eq_append_getElem hj, List.map_append, List.map_cons, List.map_nil, ← getD_get hj] at hn
    exact hn
theorem spec_ListText.ev (l : List Int) (hl : l.length ≤ 1048576) (hw : ∀ x ∈ l, -9223372036854775808 ≤ x ∧ x ≤ 9223372036854775807) : Ev (fun k => spec_ListText.f k l) (listB l) := by
  unfold spec_ListText.f listB
  by_cases e : l = []
  · rw [if_pos e]
    exact ev_pos (by rw [e]; rfl) (Ev.now _)
  · rw [if_neg e]
    refine ev_neg (by have := List.length_pos_iff.2 e; omega) ?_
    exact spec_ListText.l0_ev l hl hw l.length 0 (by omega)

/-! spec_l1Pick -/
theorem spec_l1Pick.eq (s : List Int) (hs : s.length < 4611686018427387904) (i : Int) (hi : 0 ≤ i) (h : Int) (l : List ByteArray) (hl : 1 ≤ l.length) : ∃ x i' h', spec_l1Pick.f s i h l = some (x, i', h') ∧ x ∈ l ∧ 0 ≤ i' := by
  obtain ⟨x, i1, h1, e1, hx, hi1⟩ := spec_l1Below.eq s hs i hi h (l.length : Int) (by omega)
  unfold spec_l1Pick.f
  rw [e1]
  simp only [Option.bind_some]
  rw [if_pos hx.1, if_pos hx.2]
  refine ⟨_, _, _, rfl, ?_, hi1⟩
  obtain ⟨m, rfl⟩ : ∃ m : Nat, x = (m : Int) := ⟨x.toNat, by omega⟩
  rw [rdOf_nat]
  have hm : m < l.length := by omega
  simp [List.getD_eq_getElem?_getD, hm]

/-! spec_l1Turned -/
theorem spec_l1Turned.eq (s : List Int) (hs : s.length < 4611686018427387904) (i : Int) (hi : 0 ≤ i) (h : Int) (t : ByteArray) (ht : t.size ≤ 1000000) (l : List ByteArray) (hl : 1 ≤ l.length) (hx : ∀ x ∈ l, x.size ≤ 10) : ∃ u i' h', spec_l1Turned.f s i h t l = some (u, i', h') ∧ u.size ≤ t.size + 10 ∧ 0 ≤ i' := by
  have hw : wrap64 ((t.size : Int) + 1) = (t.size : Int) + 1 := w64 (by omega) (by omega)
  obtain ⟨a, i1, h1, e1, ha, hi1⟩ := spec_l1Below.eq s hs i hi h ((t.size : Int) + 1) (by omega)
  obtain ⟨b, i2, h2, e2, hb, hi2⟩ := spec_l1Below.eq s hs i1 hi1 h1 6 (by omega)
  have z1 : (t.extract 0 a.toNat).size ≤ t.size := by rw [ByteArray.size_extract]; omega
  unfold spec_l1Turned.f
  rw [hw, e1]
  simp only [Option.bind_some]
  rw [e2]
  simp only [Option.bind_some]
  by_cases c0 : b = 0
  · obtain ⟨x, i3, h3, e3, hm, hi3⟩ := spec_l1Pick.eq s hs i2 hi2 h2 l hl
    have hz := hx x hm
    have z2 : (t.extract 0 a.toNat).size + (t.extract a.toNat t.size).size ≤ t.size := by rw [ByteArray.size_extract, ByteArray.size_extract]; omega
    rw [if_pos c0, if_pos ha.1, if_pos (by omega), e3]
    simp only [Option.bind_some]
    rw [if_pos (by omega), if_pos (by rw [ByteArray.size_append]; omega)]
    exact ⟨_, _, _, rfl, by rw [ByteArray.size_append, ByteArray.size_append]; omega, hi3⟩
  · rw [if_neg c0]
    by_cases c1 : b = 1
    · rw [if_pos c1, if_pos ha.1, if_pos (by omega)]
      exact ⟨_, _, _, rfl, by omega, hi2⟩
    · rw [if_neg c1]
      exact ⟨_, _, _, rfl, by omega, hi2⟩

/-! spec_DrawParseList -/
def drawnParts : List ByteArray := [(⟨#[44]⟩ : ByteArray), (⟨#[49]⟩ : ByteArray), (⟨#[45]⟩ : ByteArray), (⟨#[110, 111, 110, 101]⟩ : ByteArray), (⟨#[48]⟩ : ByteArray)]
theorem drawnParts_small : ∀ s ∈ drawnParts, s.size ≤ 10 := by
  intro s hs
  simp only [drawnParts, List.mem_cons, List.not_mem_nil, or_false] at hs
  rcases hs with rfl | rfl | rfl | rfl | rfl <;> decide
theorem spec_DrawParseList.ev (l : List Int) (hl : l.length < 4611686018427387904) : ∃ s, Ev (fun k => spec_DrawParseList.f k l) s ∧ s.size ≤ 1000000 := by
  obtain ⟨h, hh⟩ := spec_l1New.ev l hl
  obtain ⟨a, i1, h1, e1, ha, hx, hi1⟩ := spec_l2Draw.ev l hl 0 (by omega) h
  have hw : ∀ x ∈ a, -9223372036854775808 ≤ x ∧ x ≤ 9223372036854775807 := fun x hm => by have := hx x hm; omega
  have hz := listB_size a hw
  obtain ⟨u, i2, h2, e2, hu, hi2⟩ := spec_l1Turned.eq l hl i1 hi1 h1 (listB a) (by omega) drawnParts (by simp [drawnParts]) drawnParts_small
  unfold drawnParts at e2
  refine ⟨u, ?_, by omega⟩
  unfold spec_DrawParseList.f
  refine Ev.bind hh (Ev.bind e1 (Ev.bind (spec_ListText.ev a (by omega) hw) ?_))
  simp only []
  rw [e2]
  exact Ev.now _

/-! impl_SplitByte -/
theorem impl_SplitByte.l0_ev (s : ByteArray) (b : Int) (hs : s.size < 1000000000000) : ∀ (d : Nat) (out : List ByteArray) (fr i : Nat), i + d = s.size → fr ≤ i → out.length ≤ i → Ev (fun k => impl_SplitByte.l0 k s b out (fr : Int) (i : Int)) (splitFrom s b d out fr i) := by
  intro d
  induction d with
  | zero =>
    intro out fr i h1 h2 h3
    refine Ev.step (fun k => by rw [impl_SplitByte.l0]) ?_
    rw [splitFrom, Int.toNat_natCast]
    exact ev_neg (by omega) (ev_pos (by omega) (ev_pos (by omega) (ev_pos (by omega) (Ev.now _))))
  | succ d ih =>
    intro out fr i h1 h2 h3
    refine Ev.step (fun k => by rw [impl_SplitByte.l0]) ?_
    refine ev_pos (by omega) (ev_pos (by omega) ?_)
    rw [wadd1 (by omega), splitFrom, Int.toNat_natCast, Int.toNat_natCast]
    by_cases e : bt s (i : Int) = b
    · rw [if_pos e]
      exact ev_pos e (ev_pos (by omega) (ev_pos (by omega) (ev_pos (by omega) (ev_pos (by omega) (ih _ _ _ (by omega) (by omega) (by simp; omega))))))
    · rw [if_neg e]
      exact ev_neg e (ih _ _ _ (by omega) (by omega) (by omega))
theorem impl_SplitByte.ev (s : ByteArray) (b : Int) (hs : s.size < 1000000000000) : Ev (fun k => impl_SplitByte.f k s b) (splitV s b) := by
  unfold impl_SplitByte.f splitV
  exact impl_SplitByte.l0_ev s b hs s.size [] 0 0 (by omega) (by omega) (by simp)

/-! impl_FormatInt -/
theorem impl_FormatInt.eq (x : Int) (h : -9223372036854775808 ≤ x) (h' : x ≤ 9223372036854775807) : impl_FormatInt.f x = some (itoaB x) := by
  have e : impl_FormatInt.f x = (if -9223372036854775808 ≤ x ∧ x ≤ 9223372036854775807 then some (itoaB x) else none).bind fun t => some t := rfl
  rw [e, if_pos ⟨h, h'⟩]
  rfl

/-! strings_TrimPrefix -/
theorem strings_TrimPrefix.minus (s : ByteArray) : strings_TrimPrefix.f s (⟨#[45]⟩ : ByteArray) = some (cutB s (isNeg s)) := by
  have e1 : (⟨#[45]⟩ : ByteArray).size = 1 := rfl
  unfold strings_TrimPrefix.f stringslite_TrimPrefix.f stringslite_HasPrefix.f
  simp only [e1]
  by_cases h : 1 ≤ s.size
  · rw [if_pos (by omega), if_pos (by omega), if_pos (by omega)]
    have hp := prefix_neg s h
    have e2 : ((1 : Nat) : Int).toNat = 1 := rfl
    simp only [e2, Option.bind_some]
    rw [hp]
    unfold cutB
    by_cases c : isNeg s = true
    · rw [if_pos c, if_pos c, if_pos (by omega), if_pos (by omega)]; rfl
    · rw [if_neg c, if_neg c]; rfl
  · have c : isNeg s = false := by
      unfold isNeg
      rw [decide_eq_false (by omega)]
      rfl
    rw [if_neg (by omega)]
    simp only [Option.bind_some]
    rw [c]
    rfl

/-! impl_parsed -/
theorem impl_parsed.l0_ev (s t : ByteArray) (neg : Bool) (hn : (t.size < s.size) ↔ neg = true) (ht : t.size < 1000000000000) : ∀ (d j : Nat) (acc : Int), j + d = t.size → (-9223372036854775808 ≤ acc ∧ acc ≤ 9223372036854775807) → Ev (fun k => impl_parsed.l0 k s t acc (j : Int)) (match accD t d j acc with | none => (0, false) | some x => finV s (negV neg x)) := by
  intro d
  induction d with
  | zero =>
    intro j acc h1 h2
    refine Ev.step (fun k => by rw [impl_parsed.l0]) ?_
    refine ev_neg (by omega) ?_
    show Ev _ (finV s (negV neg acc))
    unfold finV negV
    by_cases c : neg = true
    · have hc := hn.2 c
      refine ev_pos (by omega) ?_
      rw [impl_FormatInt.eq _ (wrap_range _).1 (wrap_range _).2, if_pos c]
      simp only [Option.bind_some]
      by_cases e : (itoaB (wrap64 (-acc))).toList = s.toList
      · simp only [if_pos e]; exact Ev.now _
      · simp only [if_neg e]; exact Ev.now _
    · have hc : ¬ t.size < s.size := fun h => c (hn.1 h)
      refine ev_neg (by omega) ?_
      rw [impl_FormatInt.eq _ h2.1 h2.2, if_neg c]
      simp only [Option.bind_some]
      by_cases e : (itoaB acc).toList = s.toList
      · simp only [if_pos e]; exact Ev.now _
      · simp only [if_neg e]; exact Ev.now _
  | succ d ih =>
    intro j acc h1 h2
    refine Ev.step (fun k => by rw [impl_parsed.l0]) ?_
    rw [wadd1 (j := j) (by omega), accD]
    refine ev_pos (by omega) (ev_pos (by omega) ?_)
    by_cases c1 : bt t (j : Int) < 48
    · rw [if_pos c1]; exact ev_pos c1 (Ev.now _)
    · rw [if_neg c1]
      refine ev_neg c1 ?_
      by_cases c2 : bt t (j : Int) > 57
      · rw [if_pos c2]; exact ev_pos c2 (Ev.now _)
      · rw [if_neg c2]
        exact ev_neg c2 (ih (j + 1) _ (by omega) (wrap_range _))
theorem cutB_size (s : ByteArray) : ((cutB s (isNeg s)).size < s.size ↔ isNeg s = true) ∧ (cutB s (isNeg s)).size ≤ s.size := by
  unfold cutB
  by_cases c : isNeg s = true
  · have h : 0 < s.size := by
      unfold isNeg at c
      simp only [Bool.and_eq_true, decide_eq_true_eq] at c
      exact c.1
    rw [if_pos c, extract_size s 1 (by omega)]
    exact ⟨⟨fun _ => c, fun _ => by omega⟩, by omega⟩
  · rw [if_neg c]
    exact ⟨⟨fun h => by omega, fun h => absurd h c⟩, by omega⟩
theorem impl_parsed.ev (s : ByteArray) (m : Int) (hs : s.size ≤ 1048576) : Ev (fun k => impl_parsed.f k s m) (readV s m) := by
  unfold impl_parsed.f readV
  rw [strings_TrimPrefix.minus]
  simp only [Option.bind_some]
  have hc := cutB_size s
  have go := impl_parsed.l0_ev s (cutB s (isNeg s)) (isNeg s) hc.1 (by omega) (cutB s (isNeg s)).size 0 0 (by omega) (by omega)
  by_cases c1 : (cutB s (isNeg s)).size < 1
  · rw [if_pos (.inl c1)]
    refine ev_pos (by omega) (Ev.step (fun k => by rw [impl_parsed.j0]) ?_)
    exact ev_pos rfl (Ev.now _)
  · refine ev_neg (by omega) (Ev.step (fun k => by rw [impl_parsed.j0]) ?_)
    by_cases c2 : ((cutB s (isNeg s)).size : Int) > m
    · rw [if_pos (.inr c2)]
      exact ev_pos (decide_eq_true c2) (Ev.now _)
    · rw [if_neg (by omega)]
      exact ev_neg (by simpa using c2) go

/-! impl_ParseInt -/
theorem impl_ParseInt.ev (s : ByteArray) (hs : s.size ≤ 1048576) : Ev (fun k => impl_ParseInt.f k s) (readV s 12) := by
  unfold impl_ParseInt.f
  exact Ev.bind (impl_parsed.ev s 12 hs) (Ev.now _)

/-! impl_ParseList -/
theorem impl_ParseList.l0_ev (ps : List ByteArray) (hp : ∀ p ∈ ps, p.size ≤ 1048576) (hl : ps.length ≤ 1048577) : ∀ (d j : Nat) (acc : List Int), j + d = ps.length → acc.length ≤ j → Ev (fun k => impl_ParseList.l0 k acc ps (ps.length : Int) (j : Int)) (readFrom ps d j acc) := by
  intro d
  induction d with
  | zero =>
    intro j acc h1 h2
    refine Ev.step (fun k => by rw [impl_ParseList.l0]) ?_
    exact ev_neg (by omega) (Ev.now _)
  | succ d ih =>
    intro j acc h1 h2
    refine Ev.step (fun k => by rw [impl_ParseList.l0]) ?_
    rw [wadd1 (j := j) (by omega), rdOf_nat, readFrom]
    refine ev_pos (by omega) (ev_pos (by omega) (ev_pos (by omega) (Ev.bind (impl_ParseInt.ev _ (part_small hp j)) ?_)))
    by_cases c : (readV (ps.getD j ByteArray.empty) 12).2 = true
    · rw [if_pos c]
      exact ev_pos c (ev_pos (by omega) (ih (j + 1) _ (by omega) (by simp; omega)))
    · rw [if_neg c]
      exact ev_neg c (Ev.now _)
theorem impl_ParseList.ev (s : ByteArray) (hs : s.size ≤ 1048576) : Ev (fun k => impl_ParseList.f k s) (parseLV s) := by
  unfold impl_ParseList.f parseLV
  simp only [Option.bind_some]
  have hl := splitV_length s 44
  by_cases c : s.toList = [110, 111, 110, 101]
  · rw [if_pos c]
    exact ev_pos c (Ev.now _)
  · rw [if_neg c]
    refine ev_neg c (Ev.bind (impl_SplitByte.ev s 44 (by omega)) ?_)
    exact impl_ParseList.l0_ev _ (fun p hp => Nat.le_trans (splitV_small s 44 p hp) hs) (by omega) _ 0 [] (by omega) (by simp)

/-! spec_SplitByte -/
theorem spec_SplitByte.l0_ev (s : ByteArray) (b : Int) (hs : s.size < 1000000000000) : ∀ (d : Nat) (out : List ByteArray) (fr i : Nat), i + d = s.size → fr ≤ i → out.length ≤ i → Ev (fun k => spec_SplitByte.l0 k s b out (fr : Int) (i : Int)) (splitFrom s b d out fr i) := by
  intro d
  induction d with
  | zero =>
    intro out fr i h1 h2 h3
    refine Ev.step (fun k => by rw [spec_SplitByte.l0]) ?_
    refine ev_pos (by omega) (ev_pos (by omega) (ev_pos (by omega) (ev_pos (by omega) (ev_pos (by omega) ?_))))
    rw [wadd1 (by omega)]
    refine Ev.step (fun k => by rw [spec_SplitByte.l0]) ?_
    rw [splitFrom, Int.toNat_natCast, Int.toNat_natCast, show i = s.size by omega]
    exact ev_neg (by omega) (Ev.now _)
  | succ d ih =>
    intro out fr i h1 h2 h3
    refine Ev.step (fun k => by rw [spec_SplitByte.l0]) ?_
    refine ev_pos (by omega) (ev_neg (by omega) (ev_pos (by omega) (ev_pos (by omega) ?_)))
    rw [wadd1 (by omega), splitFrom, Int.toNat_natCast, Int.toNat_natCast]
    by_cases e : bt s (i : Int) = b
    · rw [if_pos e]
      exact ev_pos e (ev_pos (by omega) (ev_pos (by omega) (ev_pos (by omega) (ih _ _ _ (by omega) (by omega) (by simp; omega)))))
    · rw [if_neg e]
      exact ev_neg e (ih _ _ _ (by omega) (by omega) (by omega))
theorem spec_SplitByte.ev (s : ByteArray) (b : Int) (hs : s.size < 1000000000000) : Ev (fun k => spec_SplitByte.f k s b) (splitV s b) := by
  unfold spec_SplitByte.f splitV
  exact spec_SplitByte.l0_ev s b hs s.size [] 0 0 (by omega) (by omega) (by simp)

/-! spec_l1Read -/
theorem spec_l1Read.l0_ev (s t : ByteArray) (neg : Bool) (ht : t.size < 1000000000000) : ∀ (d j : Nat) (acc : Int), j + d = t.size → (-9223372036854775808 ≤ acc ∧ acc ≤ 9223372036854775807) → Ev (fun k => spec_l1Read.l0 k s neg t acc (j : Int)) (match accD t d j acc with | none => (0, false) | some x => finV s (negV neg x)) := by
  intro d
  induction d with
  | zero =>
    intro j acc h1 h2
    refine Ev.step (fun k => by rw [spec_l1Read.l0]) ?_
    refine ev_neg (by omega) ?_
    show Ev _ (finV s (negV neg acc))
    unfold finV negV
    by_cases c : neg = true
    · refine ev_pos c (Ev.bind (spec_FormatInt.ev _ (wrap_range _).1 (wrap_range _).2) ?_)
      rw [if_pos c]
      by_cases e : (itoaB (wrap64 (-acc))).toList = s.toList
      · simp only [if_pos e]; exact Ev.now _
      · simp only [if_neg e]; exact Ev.now _
    · refine ev_neg c (Ev.bind (spec_FormatInt.ev _ h2.1 h2.2) ?_)
      rw [if_neg c]
      by_cases e : (itoaB acc).toList = s.toList
      · simp only [if_pos e]; exact Ev.now _
      · simp only [if_neg e]; exact Ev.now _
  | succ d ih =>
    intro j acc h1 h2
    refine Ev.step (fun k => by rw [spec_l1Read.l0]) ?_
    rw [wadd1 (j := j) (by omega), accD]
    refine ev_pos (by omega) (ev_pos (by omega) ?_)
    by_cases c1 : bt t (j : Int) < 48
    · rw [if_pos c1]; exact ev_pos c1 (Ev.now _)
    · rw [if_neg c1]
      refine ev_neg c1 ?_
      by_cases c2 : bt t (j : Int) > 57
      · rw [if_pos c2]; exact ev_pos c2 (Ev.now _)
      · rw [if_neg c2]
        exact ev_neg c2 (ih (j + 1) _ (by omega) (wrap_range _))
theorem spec_l1Read.j1_ev (s : ByteArray) (m : Int) (hs : s.size ≤ 1048576) : Ev (fun k => spec_l1Read.j1 k s m (isNeg s) (cutB s (isNeg s))) (readV s m) := by
  have hz : (cutB s (isNeg s)).size ≤ s.size := by
    unfold cutB
    split
    · rw [ByteArray.size_extract]; omega
    · exact Nat.le_refl _
  unfold readV
  have go := spec_l1Read.l0_ev s (cutB s (isNeg s)) (isNeg s) (by omega) (cutB s (isNeg s)).size 0 0 (by omega) (by omega)
  refine Ev.step (fun k => by rw [spec_l1Read.j1]) ?_
  by_cases c1 : (cutB s (isNeg s)).size < 1
  · rw [if_pos (.inl c1)]
    refine ev_pos (by omega) (Ev.step (fun k => by rw [spec_l1Read.j2]) ?_)
    exact ev_pos rfl (Ev.now _)
  · refine ev_neg (by omega) (Ev.step (fun k => by rw [spec_l1Read.j2]) ?_)
    by_cases c2 : ((cutB s (isNeg s)).size : Int) > m
    · rw [if_pos (.inr c2)]
      exact ev_pos (decide_eq_true c2) (Ev.now _)
    · rw [if_neg (by omega)]
      exact ev_neg (by simpa using c2) go
theorem spec_l1Read.j0_ev (s : ByteArray) (m : Int) (hs : s.size ≤ 1048576) : Ev (fun k => spec_l1Read.j0 k s m (isNeg s)) (readV s m) := by
  have go := spec_l1Read.j1_ev s m hs
  refine Ev.step (fun k => by rw [spec_l1Read.j0]) ?_
  by_cases c : isNeg s = true
  · have h : 0 < s.size := by
      unfold isNeg at c
      simp only [Bool.and_eq_true, decide_eq_true_eq] at c
      exact c.1
    have e : cutB s (isNeg s) = s.extract 1 s.size := by unfold cutB; rw [if_pos c]
    rw [e] at go
    exact ev_pos c (ev_pos (by omega) go)
  · have e : cutB s (isNeg s) = s := by unfold cutB; rw [if_neg c]
    rw [e] at go
    exact ev_neg c go
theorem spec_l1Read.ev (s : ByteArray) (m : Int) (hs : s.size ≤ 1048576) : Ev (fun k => spec_l1Read.f k s m) (readV s m) := by
  have go := spec_l1Read.j0_ev s m hs
  unfold spec_l1Read.f
  by_cases h : 0 < s.size
  · have e : (bt s 0 == 45) = isNeg s := by
      unfold isNeg
      rw [decide_eq_true h, Bool.true_and]
      by_cases c : bt s 0 = 45
      · rw [decide_eq_true c, c]; rfl
      · rw [decide_eq_false c]; exact beq_eq_false_iff_ne.2 c
    rw [e]
    exact ev_pos (by omega) (ev_pos (by omega) go)
  · have e : false = isNeg s := by
      unfold isNeg
      rw [decide_eq_false h]
      rfl
    rw [e]
    exact ev_neg (by omega) go

/-! spec_ParseInt -/
theorem spec_ParseInt.ev (s : ByteArray) (hs : s.size ≤ 1048576) : Ev (fun k => spec_ParseInt.f k s) (readV s 12) := by
  unfold spec_ParseInt.f
  exact Ev.bind (spec_l1Read.ev s 12 hs) (Ev.now _)

/-! spec_ParseList -/
theorem spec_ParseList.none_ev (s : ByteArray) (hs : s.toList = [110, 111, 110, 101]) (ps : List ByteArray) : Ev (fun k => spec_ParseList.l0 k s [] ps 0) ([], true) := by
  refine Ev.step (fun k => by rw [spec_ParseList.l0]) ?_
  rw [hs]
  by_cases c : (0 : Int) < (ps.length : Int)
  · refine ev_pos c (Ev.step (fun k => by rw [spec_ParseList.j1]) ?_)
    exact ev_neg (by decide) (Ev.now _)
  · refine ev_neg c (Ev.step (fun k => by rw [spec_ParseList.j1]) ?_)
    exact ev_neg (by decide) (Ev.now _)
theorem spec_ParseList.l0_ev (s : ByteArray) (hs : ¬ s.toList = [110, 111, 110, 101]) (ps : List ByteArray) (hp : ∀ p ∈ ps, p.size ≤ 1048576) (hl : ps.length ≤ 1048577) : ∀ (d j : Nat) (acc : List Int), j + d = ps.length → acc.length ≤ j → Ev (fun k => spec_ParseList.l0 k s acc ps (j : Int)) (readFrom ps d j acc) := by
  have hb : (s.toList != ([110, 111, 110, 101] : List UInt8)) = true := by simpa using hs
  intro d
  induction d with
  | zero =>
    intro j acc h1 h2
    refine Ev.step (fun k => by rw [spec_ParseList.l0]) ?_
    refine ev_neg (by omega) (Ev.step (fun k => by rw [spec_ParseList.j1]) ?_)
    exact ev_neg (by simp) (Ev.now _)
  | succ d ih =>
    intro j acc h1 h2
    refine Ev.step (fun k => by rw [spec_ParseList.l0]) ?_
    refine ev_pos (by omega) (Ev.step (fun k => by rw [spec_ParseList.j1]) ?_)
    rw [hb, wadd1 (j := j) (by omega), rdOf_nat, readFrom]
    refine ev_pos rfl (ev_pos (by omega) (ev_pos (by omega) (Ev.bind (spec_ParseInt.ev _ (part_small hp j)) ?_)))
    by_cases c : (readV (ps.getD j ByteArray.empty) 12).2 = true
    · rw [if_pos c]
      exact ev_pos c (ev_pos (by omega) (ih (j + 1) _ (by omega) (by simp; omega)))
    · rw [if_neg c]
      exact ev_neg c (Ev.now _)
theorem spec_ParseList.ev (s : ByteArray) (hs : s.size ≤ 1048576) : Ev (fun k => spec_ParseList.f k s) (parseLV s) := by
  unfold spec_ParseList.f parseLV
  refine Ev.bind (spec_SplitByte.ev s 44 (by omega)) ?_
  have hl := splitV_length s 44
  by_cases c : s.toList = [110, 111, 110, 101]
  · rw [if_pos c]
    exact spec_ParseList.none_ev s c _
  · rw [if_neg c]
    exact spec_ParseList.l0_ev s c _ (fun p hp => Nat.le_trans (splitV_small s 44 p hp) hs) (by omega) _ 0 [] (by omega) (by simp)

/-! spec_l1In -/
theorem spec_l1In.eq (a b c : Int) : spec_l1In.f a b c = some (decide (b ≤ a ∧ a ≤ c)) := by
  unfold spec_l1In.f
  by_cases h : b ≤ a <;> simp [h]

/-! spec_l2Small -/
theorem spec_l2Small.eq (a : Int) : spec_l2Small.f a = some (decide (-1000000 ≤ a ∧ a ≤ 1000000)) := by
  unfold spec_l2Small.f
  rw [spec_l1In.eq]; rfl

/-! spec_l1Max -/
theorem spec_l1Max.eq (a b : Int) : spec_l1Max.f a b = some (mx a b) := by
  unfold spec_l1Max.f mx
  split <;> split <;> first | rfl | (congr 1; omega)

/-! spec_GcdOf -/
theorem spec_GcdOf.l0_ev : ∀ (n m : Nat), Ev (fun k => spec_GcdOf.l0 k (m : Int) (n : Int)) ((Nat.gcd m n : Nat) : Int) := by
  intro n
  induction n using Nat.strongRecOn with
  | _ n ih =>
    intro m
    refine Ev.step (fun k => by rw [spec_GcdOf.l0]) ?_
    by_cases e : n = 0
    · subst e
      rw [Nat.gcd_zero_right]
      exact ev_neg (by omega) (Ev.now _)
    · refine ev_pos (by omega) (ev_neg (by omega) ?_)
      rw [← Int.ofNat_tmod, Nat.gcd_comm m n, Nat.gcd_rec n m, Nat.gcd_comm]
      exact ih (m % n) (Nat.mod_lt _ (by omega)) n
theorem spec_GcdOf.ev (a b : Int) : Ev (fun k => spec_GcdOf.f k a b) (gcdV a b) := by
  unfold spec_GcdOf.f
  simp only [spec_l2Small.eq, Option.bind_some]
  by_cases ha : -1000000 ≤ a ∧ a ≤ 1000000
  · by_cases hb : -1000000 ≤ b ∧ b ≤ 1000000
    · rw [decide_eq_true ha, decide_eq_true hb]
      refine ev_pos rfl ?_
      refine Ev.step (fun k => by rw [spec_GcdOf.j0]) ?_
      simp only [spec_l1Max.eq, Option.bind_some, mx_abs ha.1 ha.2, mx_abs hb.1 hb.2]
      refine ev_neg (by simp) ?_
      rw [gcdV, if_pos ⟨ha, hb⟩]
      exact spec_GcdOf.l0_ev _ _
    · rw [decide_eq_true ha, decide_eq_false hb]
      refine ev_pos rfl ?_
      refine Ev.step (fun k => by rw [spec_GcdOf.j0]) ?_
      rw [gcdV, if_neg (fun h => hb h.2)]
      exact ev_pos rfl (Ev.now _)
  · rw [decide_eq_false ha]
    refine ev_neg (by simp) ?_
    refine Ev.step (fun k => by rw [spec_GcdOf.j0]) ?_
    rw [gcdV, if_neg (fun h => ha h.1)]
    exact ev_pos rfl (Ev.now _)

/-! laws_sameInts -/
theorem laws_sameInts.l0_ev (x y : List Int) (hl : x.length = y.length) (hx : x.length < 4611686018427387904) : ∀ (d j : Nat), j + d = x.length → Ev (fun k => laws_sameInts.l0 k x y (j : Int)) (B (x.drop j = y.drop j)) := by
  intro d
  induction d with
  | zero =>
    intro j h1
    refine Ev.step (fun k => by rw [laws_sameInts.l0]) ?_
    rw [B_true (by rw [List.drop_of_length_le (by omega), List.drop_of_length_le (by omega)])]
    exact ev_neg (by omega) (Ev.now _)
  | succ d ih =>
    intro j h1
    have hj : j < x.length := by omega
    have hj' : j < y.length := by omega
    refine Ev.step (fun k => by rw [laws_sameInts.l0]) ?_
    refine ev_pos (by omega) (ev_pos (by omega) (ev_pos (by omega) ?_))
    rw [wadd1 (by omega), rd_nat, rd_nat, getD_get hj, getD_get hj', List.drop_eq_getElem_cons hj, List.drop_eq_getElem_cons hj']
    by_cases e : x[j] = y[j]
    · refine ev_pos e ?_
      have := ih (j + 1) (by omega)
      rw [B_congr (q := x.drop (j + 1) = y.drop (j + 1)) (by simp only [e, List.cons.injEq, true_and])]
      exact this
    · refine ev_neg e ?_
      rw [B_false (fun h => e (List.cons.inj h).1)]
      exact Ev.now _
theorem laws_sameInts.ev (x y : List Int) (hx : x.length < 4611686018427387904) : Ev (fun k => laws_sameInts.f k x y) (B (x = y)) := by
  unfold laws_sameInts.f
  by_cases e : x.length = y.length
  · refine ev_pos (by omega) ?_
    exact laws_sameInts.l0_ev x y e hx x.length 0 (by omega)
  · refine ev_neg (by omega) ?_
    rw [B_false (fun h => e (by rw [h]))]
    exact Ev.now _

/-! spec_IsAscending -/
theorem spec_IsAscending.l0_ev (l : List Int) (hl : l.length < 4611686018427387904) : ∀ (d j : Nat), l.length ≤ j + 1 + d → Ev (fun k => spec_IsAscending.l0 k l ((j + 1 : Nat) : Int)) (B (∀ i, j ≤ i → i + 1 < l.length → l.getD i 0 < l.getD (i + 1) 0)) := by
  intro d
  induction d with
  | zero =>
    intro j h1
    refine Ev.step (fun k => by rw [spec_IsAscending.l0]) ?_
    rw [B_true (fun i _ _ => by omega)]
    exact ev_neg (by omega) (Ev.now _)
  | succ d ih =>
    intro j h1
    refine Ev.step (fun k => by rw [spec_IsAscending.l0]) ?_
    by_cases hj : j + 1 < l.length
    · have e1 : wrap64 (((j + 1 : Nat) : Int) - 1) = (j : Int) := by rw [w64 (by omega) (by omega)]; omega
      rw [e1, wadd1 (by omega), rd_nat, rd_nat]
      refine ev_pos (by omega) (ev_pos (by omega) (ev_pos (by omega) (ev_pos (by omega) ?_)))
      by_cases e : l.getD j 0 ≥ l.getD (j + 1) 0
      · refine ev_pos e ?_
        rw [B_false (fun h => by have := h j (by omega) hj; omega)]
        exact Ev.now _
      · refine ev_neg e ?_
        rw [B_congr (q := ∀ i, j + 1 ≤ i → i + 1 < l.length → l.getD i 0 < l.getD (i + 1) 0) ⟨fun h i hi => h i (by omega), fun h i hi h2 => by
          by_cases e3 : i = j
          · subst e3; omega
          · exact h i (by omega) h2⟩]
        exact ih (j + 1) (by omega)
    · rw [B_true (fun i _ _ => by omega)]
      exact ev_neg (by omega) (Ev.now _)
theorem spec_IsAscending.ev (l : List Int) (hl : l.length < 4611686018427387904) : Ev (fun k => spec_IsAscending.f k l) (B (Asc l)) := by
  unfold spec_IsAscending.f
  rw [B_congr (p := Asc l) (q := ∀ i, 0 ≤ i → i + 1 < l.length → l.getD i 0 < l.getD (i + 1) 0) ⟨fun h i _ => h i, fun h i => h i (by omega)⟩]
  exact spec_IsAscending.l0_ev l hl l.length 0 (by omega)

/-! spec_l2All -/
theorem spec_l2All.l0_ev (l : List Int) (hl : l.length ≤ 1048576) : ∀ (d j : Nat), j + d = l.length → Ev (fun k => spec_l2All.l0 k l (j : Int)) (B ((∀ x ∈ l.drop j, -1000000 ≤ x ∧ x ≤ 1000000) ∧ l.length ≤ 300)) := by
  intro d
  induction d with
  | zero =>
    intro j h1
    refine Ev.step (fun k => by rw [spec_l2All.l0]) ?_
    rw [List.drop_eq_nil_of_le (by omega)]
    refine ev_neg (by omega) ?_
    rw [B_congr (q := (l.length : Int) ≤ 300) ⟨fun h => by have := h.2; omega, fun h => ⟨by simp, by omega⟩⟩, ← B_dec]
    exact Ev.now _
  | succ d ih =>
    intro j h1
    have hj : j < l.length := by omega
    refine Ev.step (fun k => by rw [spec_l2All.l0]) ?_
    rw [wadd1 (j := j) (by omega), rd_nat, getD_get hj, spec_l2Small.eq, List.drop_eq_getElem_cons hj]
    refine ev_pos (by omega) (ev_pos (by omega) ?_)
    simp only [Option.bind_some]
    by_cases c : -1000000 ≤ l[j] ∧ l[j] ≤ 1000000
    · refine ev_pos (by simpa using c) ?_
      have := ih (j + 1) (by omega)
      rwa [B_congr (q := (∀ x ∈ l.drop (j + 1), -1000000 ≤ x ∧ x ≤ 1000000) ∧ l.length ≤ 300) ⟨fun h => ⟨fun x hx => h.1 x (List.mem_cons_of_mem _ hx), h.2⟩, fun h => ⟨fun x hx => by
        rcases List.mem_cons.1 hx with rfl | hx
        · exact c
        · exact h.1 x hx, h.2⟩⟩]
    · refine ev_neg (by simpa using c) ?_
      rw [B_false (fun h => c (h.1 _ (List.mem_cons_self ..)))]
      exact Ev.now _
theorem spec_l2All.ev (l : List Int) (hl : l.length ≤ 1048576) : Ev (fun k => spec_l2All.f k l) (B ((∀ x ∈ l, -1000000 ≤ x ∧ x ≤ 1000000) ∧ l.length ≤ 300)) := by
  unfold spec_l2All.f
  have := spec_l2All.l0_ev l hl l.length 0 (by omega)
  rwa [List.drop_zero] at this

/-! spec_SumsOf -/
/-- The sums of the first i numbers of a with all of b, and of the next one with the first j of b. -/
def SumPart (a b out : List Int) (i j : Nat) : Prop := ∀ x, x ∈ out ↔ (∃ p q : Nat, p < a.length ∧ q < b.length ∧ (p < i ∨ (p = i ∧ q < j)) ∧ x = a.getD p 0 + b.getD q 0)
def SumsV (a b : List Int) (r : List Int) : Prop := r.Pairwise (· < ·) ∧ ∀ x, x ∈ r ↔ ∃ p q : Nat, p < a.length ∧ q < b.length ∧ x = a.getD p 0 + b.getD q 0
def SumOk (a : List Int) : Prop := (∀ x ∈ a, -1000000 ≤ x ∧ x ≤ 1000000) ∧ a.length ≤ 300
theorem SumPart.put {a b out : List Int} {i j : Nat} (h : SumPart a b out i j) (hi : i < a.length) (hj : j < b.length) : SumPart a b (out ++ [a.getD i 0 + b.getD j 0]) i (j + 1) := by
  intro x
  rw [List.mem_append, List.mem_singleton, h x]
  constructor
  · rintro (⟨p, q, h1, h2, h3, h4⟩ | h)
    · exact ⟨p, q, h1, h2, by omega, h4⟩
    · exact ⟨i, j, hi, hj, by omega, h⟩
  · rintro ⟨p, q, h1, h2, h3, h4⟩
    by_cases e : p = i ∧ q = j
    · obtain ⟨rfl, rfl⟩ := e
      exact .inr h4
    · exact .inl ⟨p, q, h1, h2, by omega, h4⟩
theorem SumPart.next {a b out : List Int} {i : Nat} (h : SumPart a b out i b.length) : SumPart a b out (i + 1) 0 := by
  intro x
  rw [h x]
  constructor
  · rintro ⟨p, q, h1, h2, h3, h4⟩
    exact ⟨p, q, h1, h2, by omega, h4⟩
  · rintro ⟨p, q, h1, h2, h3, h4⟩
    exact ⟨p, q, h1, h2, by omega, h4⟩
theorem SumPart.start (a b : List Int) : SumPart a b [] 0 0 := by
  intro x
  simp only [List.not_mem_nil, false_iff]
  rintro ⟨p, q, h1, h2, h3, h4⟩
  omega
theorem SumPart.sums {a b out r : List Int} (h : SumPart a b out a.length 0) (hs : IsSort out r) : SumsV a b r := by
  refine ⟨hs.1, fun x => ?_⟩
  rw [hs.2, h x]
  constructor
  · rintro ⟨p, q, h1, h2, h3, h4⟩
    exact ⟨p, q, h1, h2, h4⟩
  · rintro ⟨p, q, h1, h2, h4⟩
    exact ⟨p, q, h1, h2, by omega, h4⟩
theorem sum_wrap {a b : List Int} (ha : SumOk a) (hb : SumOk b) {i j : Nat} (hi : i < a.length) (hj : j < b.length) : wrap64 (a.getD i 0 + b.getD j 0) = a.getD i 0 + b.getD j 0 := by
  have h1 := ha.1 _ (getD_mem hi)
  have h2 := hb.1 _ (getD_mem hj)
  exact w64 (by omega) (by omega)
theorem spec_SumsOf.l1_ev (a b : List Int) (ha : SumOk a) (hb : SumOk b) (i : Nat) (hi : i < a.length) (P : List Int → Prop) (hn : ∀ out, SumPart a b out (i + 1) 0 → out.length ≤ 300 * (i + 1) → ∃ r, Ev (fun k => spec_SumsOf.l0 k a b out ((i + 1 : Nat) : Int)) r ∧ P r) : ∀ (d j : Nat) (out : List Int), j + d = b.length → out.length ≤ 300 * i + j → SumPart a b out i j → ∃ r, Ev (fun k => spec_SumsOf.l1 k a b out (i : Int) (j : Int)) r ∧ P r := by
  have hal := ha.2
  have hbl := hb.2
  intro d
  induction d with
  | zero =>
    intro j out h1 h2 h3
    obtain rfl : j = b.length := by omega
    obtain ⟨r, hr, hp⟩ := hn out h3.next (by omega)
    refine ⟨r, Ev.step (fun k => by rw [spec_SumsOf.l1]) ?_, hp⟩
    rw [wadd1 (j := i) (by omega)]
    exact ev_neg (by omega) hr
  | succ d ih =>
    intro j out h1 h2 h3
    have hj : j < b.length := by omega
    obtain ⟨r, hr, hp⟩ := ih (j + 1) (out ++ [a.getD i 0 + b.getD j 0]) (by omega) (by simp; omega) (h3.put hi hj)
    refine ⟨r, Ev.step (fun k => by rw [spec_SumsOf.l1]) ?_, hp⟩
    rw [wadd1 (j := j) (by omega), rd_nat, rd_nat, sum_wrap ha hb hi hj]
    exact ev_pos (by omega) (ev_pos (by omega) (ev_pos (by omega) (ev_pos (by omega) (ev_pos (by omega) hr))))
theorem spec_SumsOf.l0_ev (a b : List Int) (ha : SumOk a) (hb : SumOk b) : ∀ (d i : Nat) (out : List Int), i + d = a.length → out.length ≤ 300 * i → SumPart a b out i 0 → ∃ r, Ev (fun k => spec_SumsOf.l0 k a b out (i : Int)) r ∧ (SumsV a b r ∧ r.length ≤ 1000000) := by
  have hal := ha.2
  have hbl := hb.2
  intro d
  induction d with
  | zero =>
    intro i out h1 h2 h3
    obtain rfl : i = a.length := by omega
    obtain ⟨r, hr, hs, hl⟩ := spec_SortList.ev out (by omega)
    refine ⟨r, Ev.step (fun k => by rw [spec_SumsOf.l0]) ?_, h3.sums hs, by omega⟩
    exact ev_neg (by omega) (Ev.bind hr (Ev.now _))
  | succ d ih =>
    intro i out h1 h2 h3
    obtain ⟨r, hr, hp⟩ := spec_SumsOf.l1_ev a b ha hb i (by omega) _ (fun out' p1 p2 => ih (i + 1) out' (by omega) (by omega) p1) b.length 0 out (by omega) (by omega) h3
    refine ⟨r, Ev.step (fun k => by rw [spec_SumsOf.l0]) ?_, hp⟩
    exact ev_pos (by omega) hr
theorem spec_SumsOf.ev (a b : List Int) (ha : a.length ≤ 1048576) (hb : b.length ≤ 1048576) : ∃ r, Ev (fun k => spec_SumsOf.f k a b) r ∧ (((SumOk a ∧ SumOk b) ∧ SumsV a b r) ∨ (¬ (SumOk a ∧ SumOk b) ∧ r = [])) ∧ r.length ≤ 1000000 := by
  unfold spec_SumsOf.f
  simp only [Option.bind_some]
  by_cases ca : SumOk a
  · by_cases cb : SumOk b
    · obtain ⟨r, hr, hp, hl⟩ := spec_SumsOf.l0_ev a b ca cb a.length 0 [] (by omega) (by simp) (SumPart.start a b)
      refine ⟨r, Ev.bind (spec_l2All.ev a ha) ?_, .inl ⟨⟨ca, cb⟩, hp⟩, hl⟩
      rw [B_true (show (∀ x ∈ a, -1000000 ≤ x ∧ x ≤ 1000000) ∧ a.length ≤ 300 from ca)]
      refine ev_pos rfl (Ev.bind (spec_l2All.ev b hb) ?_)
      rw [B_true (show (∀ x ∈ b, -1000000 ≤ x ∧ x ≤ 1000000) ∧ b.length ≤ 300 from cb)]
      refine Ev.step (fun k => by rw [spec_SumsOf.j0]) ?_
      exact ev_neg (by simp) hr
    · refine ⟨[], Ev.bind (spec_l2All.ev a ha) ?_, .inr ⟨fun h => cb h.2, rfl⟩, by simp⟩
      rw [B_true (show (∀ x ∈ a, -1000000 ≤ x ∧ x ≤ 1000000) ∧ a.length ≤ 300 from ca)]
      refine ev_pos rfl (Ev.bind (spec_l2All.ev b hb) ?_)
      rw [B_false (show ¬ ((∀ x ∈ b, -1000000 ≤ x ∧ x ≤ 1000000) ∧ b.length ≤ 300) from cb)]
      refine Ev.step (fun k => by rw [spec_SumsOf.j0]) ?_
      exact ev_pos (by simp) (Ev.now _)
  · refine ⟨[], Ev.bind (spec_l2All.ev a ha) ?_, .inr ⟨fun h => ca h.1, rfl⟩, by simp⟩
    rw [B_false (show ¬ ((∀ x ∈ a, -1000000 ≤ x ∧ x ≤ 1000000) ∧ a.length ≤ 300) from ca)]
    refine ev_neg (by simp) ?_
    refine Ev.step (fun k => by rw [spec_SumsOf.j0]) ?_
    exact ev_pos rfl (Ev.now _)

/-! impl_SumsOf -/
theorem impl_SumsOf.l1_ev (a b : List Int) (ha : SumOk a) (hb : SumOk b) (i : Nat) (hi : i < a.length) (P : List Int → Prop) (hn : ∀ out, SumPart a b out (i + 1) 0 → out.length ≤ 300 * (i + 1) → ∃ r, Ev (fun k => impl_SumsOf.l0 k b out a (a.length : Int) ((i + 1 : Nat) : Int)) r ∧ P r) : ∀ (d j : Nat) (out : List Int), j + d = b.length → out.length ≤ 300 * i + j → SumPart a b out i j → ∃ r, Ev (fun k => impl_SumsOf.l1 k b out (a.getD i 0) a (a.length : Int) (i : Int) b (b.length : Int) (j : Int)) r ∧ P r := by
  have hal := ha.2
  have hbl := hb.2
  intro d
  induction d with
  | zero =>
    intro j out h1 h2 h3
    obtain rfl : j = b.length := by omega
    obtain ⟨r, hr, hp⟩ := hn out h3.next (by omega)
    refine ⟨r, Ev.step (fun k => by rw [impl_SumsOf.l1]) ?_, hp⟩
    rw [wadd1 (j := i) (by omega)]
    exact ev_neg (by omega) hr
  | succ d ih =>
    intro j out h1 h2 h3
    have hj : j < b.length := by omega
    obtain ⟨r, hr, hp⟩ := ih (j + 1) (out ++ [a.getD i 0 + b.getD j 0]) (by omega) (by simp; omega) (h3.put hi hj)
    refine ⟨r, Ev.step (fun k => by rw [impl_SumsOf.l1]) ?_, hp⟩
    rw [wadd1 (j := j) (by omega), rd_nat, sum_wrap ha hb hi hj]
    exact ev_pos (by omega) (ev_pos (by omega) (ev_pos (by omega) (ev_pos (by omega) hr)))
theorem impl_SumsOf.l0_ev (a b : List Int) (ha : SumOk a) (hb : SumOk b) : ∀ (d i : Nat) (out : List Int), i + d = a.length → out.length ≤ 300 * i → SumPart a b out i 0 → ∃ r, Ev (fun k => impl_SumsOf.l0 k b out a (a.length : Int) (i : Int)) r ∧ (SumsV a b r ∧ r.length ≤ 1000000) := by
  have hal := ha.2
  have hbl := hb.2
  intro d
  induction d with
  | zero =>
    intro i out h1 h2 h3
    obtain rfl : i = a.length := by omega
    obtain ⟨r, hr, hs, hl⟩ := impl_SortList.eq out (by omega)
    refine ⟨r, Ev.step (fun k => by rw [impl_SumsOf.l0]) ?_, h3.sums hs, by omega⟩
    refine ev_neg (by omega) ?_
    rw [hr]
    exact Ev.now _
  | succ d ih =>
    intro i out h1 h2 h3
    obtain ⟨r, hr, hp⟩ := impl_SumsOf.l1_ev a b ha hb i (by omega) _ (fun out' p1 p2 => ih (i + 1) out' (by omega) (by omega) p1) b.length 0 out (by omega) (by omega) h3
    refine ⟨r, Ev.step (fun k => by rw [impl_SumsOf.l0]) ?_, hp⟩
    rw [rd_nat]
    exact ev_pos (by omega) (ev_pos (by omega) (ev_pos (by omega) hr))
theorem impl_SumsOf.ev (a b : List Int) (ha : a.length ≤ 1048576) (hb : b.length ≤ 1048576) : ∃ r, Ev (fun k => impl_SumsOf.f k a b) r ∧ (((SumOk a ∧ SumOk b) ∧ SumsV a b r) ∨ (¬ (SumOk a ∧ SumOk b) ∧ r = [])) := by
  unfold impl_SumsOf.f
  have bad : Box (Ev (fun k => impl_SumsOf.j0 k a b true) []) := ⟨by
    refine Ev.step (fun k => by rw [impl_SumsOf.j0]) ?_
    exact ev_pos rfl (Ev.now _)⟩
  by_cases c1 : ∀ x ∈ a, -1000000 ≤ x ∧ x ≤ 1000000
  · by_cases c2 : ∀ x ∈ b, -1000000 ≤ x ∧ x ≤ 1000000
    · by_cases c3 : a.length ≤ 300
      · by_cases c4 : b.length ≤ 300
        · obtain ⟨r, hr, hp, hl⟩ := impl_SumsOf.l0_ev a b ⟨c1, c3⟩ ⟨c2, c4⟩ a.length 0 [] (by omega) (by simp) (SumPart.start a b)
          refine ⟨r, Ev.bind (impl_allWithin.ev a _ _ (by omega)) ?_, .inl ⟨⟨⟨c1, c3⟩, c2, c4⟩, hp⟩⟩
          rw [B_true c1]
          refine ev_pos rfl (Ev.bind (impl_allWithin.ev b _ _ (by omega)) ?_)
          rw [B_true c2]
          refine ev_pos rfl (ev_neg (by omega) ?_)
          rw [decide_eq_false (by omega)]
          refine Ev.step (fun k => by rw [impl_SumsOf.j0]) ?_
          exact ev_neg (by simp) hr
        · refine ⟨[], Ev.bind (impl_allWithin.ev a _ _ (by omega)) ?_, .inr ⟨fun h => c4 h.2.2, rfl⟩⟩
          rw [B_true c1]
          refine ev_pos rfl (Ev.bind (impl_allWithin.ev b _ _ (by omega)) ?_)
          rw [B_true c2]
          refine ev_pos rfl (ev_neg (by omega) ?_)
          rw [decide_eq_true (by omega)]
          exact bad.out
      · refine ⟨[], Ev.bind (impl_allWithin.ev a _ _ (by omega)) ?_, .inr ⟨fun h => c3 h.1.2, rfl⟩⟩
        rw [B_true c1]
        refine ev_pos rfl (Ev.bind (impl_allWithin.ev b _ _ (by omega)) ?_)
        rw [B_true c2]
        exact ev_pos rfl (ev_pos (by omega) bad.out)
    · refine ⟨[], Ev.bind (impl_allWithin.ev a _ _ (by omega)) ?_, .inr ⟨fun h => c2 h.2.1, rfl⟩⟩
      rw [B_true c1]
      refine ev_pos rfl (Ev.bind (impl_allWithin.ev b _ _ (by omega)) ?_)
      rw [B_false c2]
      exact ev_neg (by simp) bad.out
  · refine ⟨[], Ev.bind (impl_allWithin.ev a _ _ (by omega)) ?_, .inr ⟨fun h => c1 h.1.1, rfl⟩⟩
    rw [B_false c1]
    exact ev_neg (by simp) bad.out

/-! slices_Index_int_int -/
theorem slices_Index_int_int.l0_ev (l : List Int) (x : Int) (hl : l.length < 4611686018427387904) : ∀ (d j : Nat), j + d = l.length → ∃ r, Ev (fun k => slices_Index_int_int.l0 k l x (l.length : Int) (j : Int)) r ∧ (0 ≤ r ↔ x ∈ l.drop j) := by
  intro d
  induction d with
  | zero =>
    intro j h1
    refine ⟨-1, Ev.step (fun k => by rw [slices_Index_int_int.l0]) ?_, ?_⟩
    exact ev_neg (by omega) (Ev.now _)
    rw [List.drop_of_length_le (by omega)]; simp
  | succ d ih =>
    intro j h1
    have hj : j < l.length := by omega
    by_cases e : x = l[j]
    · refine ⟨j, Ev.step (fun k => by rw [slices_Index_int_int.l0]) ?_, ?_⟩
      · rw [rd_nat, getD_get hj]
        exact ev_pos (by omega) (ev_pos (by omega) (ev_pos (by omega) (ev_pos e (Ev.now _))))
      · rw [List.drop_eq_getElem_cons hj, e]; exact ⟨fun _ => List.mem_cons_self, fun _ => by omega⟩
    · obtain ⟨r, hr, h⟩ := ih (j + 1) (by omega)
      refine ⟨r, Ev.step (fun k => by rw [slices_Index_int_int.l0]) ?_, ?_⟩
      · rw [rd_nat, getD_get hj, wadd1 (by omega)]
        exact ev_pos (by omega) (ev_pos (by omega) (ev_pos (by omega) (ev_neg e hr)))
      · rw [List.drop_eq_getElem_cons hj, h, List.mem_cons]; exact ⟨.inr, fun hh => hh.resolve_left e⟩

/-! slices_Contains_int_int -/
theorem slices_Contains_int_int.ev (l : List Int) (x : Int) (hl : l.length < 4611686018427387904) : Ev (fun k => slices_Contains_int_int.f k l x) (B (x ∈ l)) := by
  obtain ⟨r, hr, h⟩ := slices_Index_int_int.l0_ev l x hl l.length 0 (by omega)
  unfold slices_Contains_int_int.f slices_Index_int_int.f
  refine Ev.bind hr ?_
  rw [B_dec, B_congr (q := x ∈ l) (by simpa using h)]
  exact Ev.now _

/-! impl_SharedOf -/
theorem impl_SharedOf.l0_ev (b s : List Int) (hs : s.length ≤ 1048576) (hb : b.length ≤ 1048576) : ∀ (d j : Nat) (out : List Int), j + d = s.length → out.length ≤ j → Ev (fun k => impl_SharedOf.l0 k b out s (s.length : Int) (j : Int)) (out ++ (s.drop j).filter (fun x => B (x ∈ b))) := by
  intro d
  induction d with
  | zero =>
    intro j out h1 h2
    refine Ev.step (fun k => by rw [impl_SharedOf.l0]) ?_
    rw [List.drop_eq_nil_of_le (by omega), List.filter_nil, List.append_nil]
    exact ev_neg (by omega) (Ev.now _)
  | succ d ih =>
    intro j out h1 h2
    have hj : j < s.length := by omega
    refine Ev.step (fun k => by rw [impl_SharedOf.l0]) ?_
    rw [wadd1 (j := j) (by omega), rd_nat, getD_get hj, List.drop_eq_getElem_cons hj, List.filter_cons]
    refine ev_pos (by omega) (ev_pos (by omega) (ev_pos (by omega) (Ev.bind (slices_Contains_int_int.ev b s[j] (by omega)) ?_)))
    by_cases m : B (s[j] ∈ b) = true
    · rw [if_pos m, show out ++ s[j] :: List.filter (fun x => B (x ∈ b)) (List.drop (j + 1) s) = (out ++ [s[j]]) ++ List.filter (fun x => B (x ∈ b)) (List.drop (j + 1) s) by simp]
      exact ev_pos m (ev_pos (by omega) (ih (j + 1) (out ++ [s[j]]) (by omega) (by simp; omega)))
    · rw [if_neg m]
      exact ev_neg m (ih (j + 1) out (by omega) (by omega))
theorem impl_SharedOf.ev (a b : List Int) (ha : a.length ≤ 1048576) (hb : b.length ≤ 1048576) : ∃ r, Ev (fun k => impl_SharedOf.f k a b) r ∧ r.Pairwise (· < ·) ∧ (∀ x, x ∈ r ↔ x ∈ a ∧ x ∈ b) := by
  obtain ⟨s, h1, h2, h3⟩ := impl_SortList.eq a (by omega)
  have := impl_SharedOf.l0_ev b s (by omega) hb s.length 0 [] (by omega) (by simp)
  rw [List.drop_zero, List.nil_append] at this
  refine ⟨s.filter (fun x => B (x ∈ b)), ?_, h2.1.filter _, fun x => ?_⟩
  · unfold impl_SharedOf.f
    rw [h1]
    exact this
  · rw [List.mem_filter, h2.2, B_iff]

/-! spec_HasNumber -/
theorem spec_HasNumber.l0_ev (l : List Int) (x : Int) (hl : l.length < 4611686018427387904) : ∀ (d j : Nat), j + d = l.length → Ev (fun k => spec_HasNumber.l0 k l x (j : Int)) (B (x ∈ l.drop j)) := by
  intro d
  induction d with
  | zero =>
    intro j h1
    refine Ev.step (fun k => by rw [spec_HasNumber.l0]) ?_
    rw [B_false (by rw [List.drop_of_length_le (by omega)]; simp)]
    exact ev_neg (by omega) (Ev.now _)
  | succ d ih =>
    intro j h1
    have hj : j < l.length := by omega
    refine Ev.step (fun k => by rw [spec_HasNumber.l0]) ?_
    rw [wadd1 (by omega), rd_nat, getD_get hj, List.drop_eq_getElem_cons hj]
    refine ev_pos (by omega) (ev_pos (by omega) ?_)
    by_cases e : l[j] = x
    · rw [B_true (by rw [e]; exact List.mem_cons_self)]
      exact ev_pos e (Ev.now _)
    · refine ev_neg e ?_
      rw [B_congr (q := x ∈ l.drop (j + 1)) (by rw [List.mem_cons]; exact ⟨fun h => h.resolve_left (Ne.symm e), .inr⟩)]
      exact ih (j + 1) (by omega)
theorem spec_HasNumber.ev (l : List Int) (x : Int) (hl : l.length < 4611686018427387904) : Ev (fun k => spec_HasNumber.f k l x) (B (x ∈ l)) := by
  unfold spec_HasNumber.f
  exact spec_HasNumber.l0_ev l x hl l.length 0 (by omega)

/-! spec_SharedOf -/
theorem spec_SharedOf.l0_ev (a b : List Int) (ha : a.length ≤ 1048576) (hb : b.length ≤ 1048576) : ∀ (d j : Nat) (out : List Int), j + d = a.length → out.length ≤ j → (∀ x, x ∈ out ↔ x ∈ a.take j ∧ x ∈ b) → ∃ r, Ev (fun k => spec_SharedOf.l0 k a b out (j : Int)) r ∧ r.Pairwise (· < ·) ∧ (∀ x, x ∈ r ↔ x ∈ a ∧ x ∈ b) ∧ r.length ≤ 1048576 := by
  intro d
  induction d with
  | zero =>
    intro j out h1 h2 h3
    rw [List.take_of_length_le (by omega)] at h3
    obtain ⟨r, hr, hs, hl⟩ := spec_SortList.ev out (by omega)
    refine ⟨r, Ev.step (fun k => by rw [spec_SharedOf.l0]) ?_, hs.1, fun x => (hs.2 x).trans (h3 x), by omega⟩
    exact ev_neg (by omega) (Ev.bind hr (Ev.now _))
  | succ d ih =>
    intro j out h1 h2 h3
    have hj : j < a.length := by omega
    have ht : ∀ x, x ∈ a.take (j + 1) ↔ x ∈ a.take j ∨ x = a[j] := fun x => by rw [List.take_succ_eq_append_getElem hj, List.mem_append, List.mem_singleton]
    by_cases m : a[j] ∈ b
    · obtain ⟨r, hr, hs⟩ := ih (j + 1) (out ++ [a[j]]) (by omega) (by simp; omega) (fun x => by
        rw [List.mem_append, List.mem_singleton, h3, ht]
        constructor
        · rintro (h | rfl)
          · exact ⟨.inl h.1, h.2⟩
          · exact ⟨.inr rfl, m⟩
        · rintro ⟨h | h, h'⟩
          · exact .inl ⟨h, h'⟩
          · exact .inr h)
      refine ⟨r, Ev.step (fun k => by rw [spec_SharedOf.l0]) ?_, hs⟩
      rw [wadd1 (j := j) (by omega), rd_nat, getD_get hj]
      refine ev_pos (by omega) (ev_pos (by omega) (Ev.bind (spec_HasNumber.ev b a[j] (by omega)) ?_))
      rw [B_true m]
      exact ev_pos rfl (ev_pos (by omega) hr)
    · obtain ⟨r, hr, hs⟩ := ih (j + 1) out (by omega) (by omega) (fun x => by
        rw [h3, ht]
        constructor
        · rintro ⟨h, h'⟩
          exact ⟨.inl h, h'⟩
        · rintro ⟨h | h, h'⟩
          · exact ⟨h, h'⟩
          · rw [h] at h'; exact absurd h' m)
      refine ⟨r, Ev.step (fun k => by rw [spec_SharedOf.l0]) ?_, hs⟩
      rw [wadd1 (j := j) (by omega), rd_nat, getD_get hj]
      refine ev_pos (by omega) (ev_pos (by omega) (Ev.bind (spec_HasNumber.ev b a[j] (by omega)) ?_))
      rw [B_false m]
      exact ev_neg (by simp) hr
theorem spec_SharedOf.ev (a b : List Int) (ha : a.length ≤ 1048576) (hb : b.length ≤ 1048576) : ∃ r, Ev (fun k => spec_SharedOf.f k a b) r ∧ r.Pairwise (· < ·) ∧ (∀ x, x ∈ r ↔ x ∈ a ∧ x ∈ b) ∧ r.length ≤ 1048576 := by
  unfold spec_SharedOf.f
  exact spec_SharedOf.l0_ev a b ha hb a.length 0 [] (by omega) (by simp) (by simp)

/-! impl_HasNumber -/
theorem impl_HasNumber.ev (l : List Int) (x : Int) (hl : l.length < 4611686018427387904) : Ev (fun k => impl_HasNumber.f k l x) (B (x ∈ l)) := by
  unfold impl_HasNumber.f
  exact Ev.bind (slices_Contains_int_int.ev l x hl) (Ev.now _)

/-! impl_IsAscending -/
theorem impl_IsAscending.l0_ev (l : List Int) (hl : l.length < 4611686018427387904) : ∀ (d j : Nat), l.length ≤ j + 1 + d → Ev (fun k => impl_IsAscending.l0 k l ((j + 1 : Nat) : Int)) (B (∀ i, j ≤ i → i + 1 < l.length → l.getD i 0 < l.getD (i + 1) 0)) := by
  intro d
  induction d with
  | zero =>
    intro j h1
    refine Ev.step (fun k => by rw [impl_IsAscending.l0]) ?_
    rw [B_true (fun i _ _ => by omega)]
    exact ev_neg (by omega) (Ev.now _)
  | succ d ih =>
    intro j h1
    refine Ev.step (fun k => by rw [impl_IsAscending.l0]) ?_
    by_cases hj : j + 1 < l.length
    · have e1 : wrap64 (((j + 1 : Nat) : Int) - 1) = (j : Int) := by rw [w64 (by omega) (by omega)]; omega
      rw [e1, wadd1 (by omega), rd_nat, rd_nat]
      refine ev_pos (by omega) (ev_pos (by omega) (ev_pos (by omega) (ev_pos (by omega) ?_)))
      by_cases e : l.getD (j + 1) 0 ≤ l.getD j 0
      · refine ev_pos e ?_
        rw [B_false (fun h => by have := h j (by omega) hj; omega)]
        exact Ev.now _
      · refine ev_neg e ?_
        rw [B_congr (q := ∀ i, j + 1 ≤ i → i + 1 < l.length → l.getD i 0 < l.getD (i + 1) 0) ⟨fun h i hi => h i (by omega), fun h i hi h2 => by
          by_cases e3 : i = j
          · subst e3; omega
          · exact h i (by omega) h2⟩]
        exact ih (j + 1) (by omega)
    · rw [B_true (fun i _ _ => by omega)]
      exact ev_neg (by omega) (Ev.now _)
theorem impl_IsAscending.ev (l : List Int) (hl : l.length < 4611686018427387904) : Ev (fun k => impl_IsAscending.f k l) (B (Asc l)) := by
  unfold impl_IsAscending.f
  rw [B_congr (p := Asc l) (q := ∀ i, 0 ≤ i → i + 1 < l.length → l.getD i 0 < l.getD (i + 1) 0) ⟨fun h i _ => h i, fun h i => h i (by omega)⟩]
  exact impl_IsAscending.l0_ev l hl l.length 0 (by omega)

/-! impl_GcdOfList -/
theorem impl_GcdOfList.l0_ev (l : List Int) (hl : l.length < 4611686018427387904) : ∀ (d j : Nat) (g : Int), j + d = l.length → Ev (fun k => impl_GcdOfList.l0 k g l (l.length : Int) (j : Int)) ((l.drop j).foldl gcdV g) := by
  intro d
  induction d with
  | zero =>
    intro j g h1
    refine Ev.step (fun k => by rw [impl_GcdOfList.l0]) ?_
    rw [List.drop_of_length_le (by omega)]
    exact ev_neg (by omega) (Ev.now _)
  | succ d ih =>
    intro j g h1
    have hj : j < l.length := by omega
    refine Ev.step (fun k => by rw [impl_GcdOfList.l0]) ?_
    rw [wadd1 (by omega), rd_nat, getD_get hj, List.drop_eq_getElem_cons hj, List.foldl_cons]
    exact ev_pos (by omega) (ev_pos (by omega) (ev_pos (by omega) (Ev.bind (impl_GcdOf.ev _ _) (ih (j + 1) _ (by omega)))))
theorem impl_GcdOfList.ev (l : List Int) (hl : l.length < 4611686018427387904) : Ev (fun k => impl_GcdOfList.f k l) (gcdLV l) := by
  unfold impl_GcdOfList.f gcdLV
  exact impl_GcdOfList.l0_ev l hl l.length 0 0 (by omega)

/-! spec_GcdOfList -/
theorem spec_GcdOfList.l0_ev (l : List Int) (hl : l.length < 4611686018427387904) : ∀ (d j : Nat) (g : Int), j + d = l.length → Ev (fun k => spec_GcdOfList.l0 k l g (j : Int)) ((l.drop j).foldl gcdV g) := by
  intro d
  induction d with
  | zero =>
    intro j g h1
    refine Ev.step (fun k => by rw [spec_GcdOfList.l0]) ?_
    rw [List.drop_of_length_le (by omega)]
    exact ev_neg (by omega) (Ev.now _)
  | succ d ih =>
    intro j g h1
    have hj : j < l.length := by omega
    refine Ev.step (fun k => by rw [spec_GcdOfList.l0]) ?_
    rw [wadd1 (by omega), rd_nat, getD_get hj, List.drop_eq_getElem_cons hj, List.foldl_cons]
    exact ev_pos (by omega) (ev_pos (by omega) (Ev.bind (spec_GcdOf.ev _ _) (ih (j + 1) _ (by omega))))
theorem spec_GcdOfList.ev (l : List Int) (hl : l.length < 4611686018427387904) : Ev (fun k => spec_GcdOfList.f k l) (gcdLV l) := by
  unfold spec_GcdOfList.f gcdLV
  exact spec_GcdOfList.l0_ev l hl l.length 0 0 (by omega)

/-! spec_DrawListText -/
theorem spec_DrawListText.ev (l : List Int) (hl : l.length < 4611686018427387904) : ∃ a, Ev (fun k => spec_DrawListText.f k l) a ∧ a.length ≤ 1000 ∧ ∀ x ∈ a, -4 ≤ x ∧ x ≤ 20 := by
  obtain ⟨h, hh⟩ := spec_l1New.ev l hl
  obtain ⟨a, i1, h1, e1, ha, hx, hi1⟩ := spec_l2Draw.ev l hl 0 (by omega) h
  refine ⟨a, ?_, ha, hx⟩
  unfold spec_DrawListText.f
  exact Ev.bind hh (Ev.bind e1 (Ev.now _))

/-! impl_Join -/
theorem impl_Join.eqB (l : List ByteArray) (b : ByteArray) (hl : l.length ≤ 1048576) (hb : b.size ≤ 1048576) (hs : Lib.lens (l.map (·.data.toList)) ≤ 1000000000) : impl_Join.f l b = some ⟨(Lib.join (l.map (·.data.toList)) b.data.toList).toArray⟩ := by
  have hk := joinK_length l b l.length
  unfold joinK at hk
  rw [List.take_length] at hk
  have hm : b.size * l.length ≤ 1048576 * 1048576 := Nat.mul_le_mul hb hl
  unfold impl_Join.f strings_Join.f
  rw [if_pos ⟨by omega, by omega⟩]
  rfl
theorem impl_Join.eq (l : List ByteArray) (b : ByteArray) (hl : l.length ≤ 1048576) (hb : b.size ≤ 1048576) (hs : Lib.lens (l.map (·.data.toList)) ≤ 1048576) : impl_Join.f l b = some ⟨(Lib.join (l.map (·.data.toList)) b.data.toList).toArray⟩ := impl_Join.eqB l b hl hb (by omega)

/-! impl_ListText -/
theorem impl_ListText.l0_ev (l : List Int) (hl : l.length ≤ 1048576) (hw : ∀ x ∈ l, -9223372036854775808 ≤ x ∧ x ≤ 9223372036854775807) : ∀ (d j : Nat), j + d = l.length → Ev (fun k => impl_ListText.l0 k ((l.take j).map itoaB) l (l.length : Int) (j : Int)) ⟨(Lib.join ((l.map itoaB).map (·.data.toList)) [44]).toArray⟩ := by
  intro d
  induction d with
  | zero =>
    intro j h1
    obtain rfl : j = l.length := by omega
    refine Ev.step (fun k => by rw [impl_ListText.l0]) ?_
    refine ev_neg (by omega) ?_
    rw [List.take_length]
    have hz := lens_texts l hw
    rw [impl_Join.eqB (l.map itoaB) ⟨#[44]⟩ (by simpa using hl) (by decide) (by omega)]
    simp only [Option.bind_some]
    exact Ev.now _
  | succ d ih =>
    intro j h1
    have hj : j < l.length := by omega
    have hn := ih (j + 1) (by omega)
    have hm := hw _ (getD_mem hj)
    refine Ev.step (fun k => by rw [impl_ListText.l0]) ?_
    rw [wadd1 (j := j) (by omega), rd_nat, impl_FormatInt.eq _ hm.1 hm.2]
    simp only [Option.bind_some]
    refine ev_pos (by omega) (ev_pos (by omega) (ev_pos (by omega) (ev_pos (by simp; omega) ?_)))
    rw [List.take_succ_eq_append_getElem hj, List.map_append, List.map_cons, List.map_nil, ← getD_get hj] at hn
    exact hn
theorem impl_ListText.ev (l : List Int) (hl : l.length ≤ 1048576) (hw : ∀ x ∈ l, -9223372036854775808 ≤ x ∧ x ≤ 9223372036854775807) : Ev (fun k => impl_ListText.f k l) (listB l) := by
  unfold impl_ListText.f listB
  by_cases e : l = []
  · rw [if_pos e]
    exact ev_pos (by rw [e]; rfl) (Ev.now _)
  · rw [if_neg e]
    refine ev_neg (by have := List.length_pos_iff.2 e; omega) ?_
    exact impl_ListText.l0_ev l hl hw l.length 0 (by omega)

end Go.Proofs.YthednemidaegkaaGreatDoor.PFnLists
namespace Go.Proofs.YthednemidaegkaaGreatDoor.Pure
open Go.RowKit Go.Proofs.YthednemidaegkaaGreatDoorW.PrintWords Go.Proofs.YthednemidaegkaaGreatDoorW.PrintLast Go.Proofs.YthednemidaegkaaGreatDoorW.PrintMore Go.Proofs.YthednemidaegkaaGreatDoorM
set_option linter.unusedVariables false
set_option linter.unusedSimpArgs false
open Go.Proofs.YthednemidaegkaaGreatDoor.PFnLists
theorem FnLists.gcd_tmod {a b : Int} (h : gcdV a b > 0) : Int.tmod a (gcdV a b) = 0 ∧ Int.tmod b (gcdV a b) = 0 := by
  unfold gcdV at h ⊢
  by_cases c : (-1000000 ≤ a ∧ a ≤ 1000000) ∧ (-1000000 ≤ b ∧ b ≤ 1000000)
  · rw [if_pos c]
    exact ⟨Int.tmod_eq_zero_of_dvd (Int.dvd_natAbs.1 (Int.natCast_dvd_natCast.2 (Nat.gcd_dvd_left ..))), Int.tmod_eq_zero_of_dvd (Int.dvd_natAbs.1 (Int.natCast_dvd_natCast.2 (Nat.gcd_dvd_right ..)))⟩
  · rw [if_neg c] at h
    omega
def FnLists.SumR (a b r : List Int) : Prop := ((SumOk a ∧ SumOk b) ∧ SumsV a b r) ∨ (¬ (SumOk a ∧ SumOk b) ∧ r = [])
theorem FnLists.SumR.symm {a b r : List Int} (h : FnLists.SumR a b r) : FnLists.SumR b a r := by
  rcases h with ⟨h1, h2⟩ | ⟨h1, h2⟩
  · refine .inl ⟨h1.symm, h2.1, fun x => (h2.2 x).trans ⟨?_, ?_⟩⟩
    · rintro ⟨p, q, hp, hq, e⟩
      exact ⟨q, p, hq, hp, by omega⟩
    · rintro ⟨p, q, hp, hq, e⟩
      exact ⟨q, p, hq, hp, by omega⟩
  · exact .inr ⟨fun h => h1 h.symm, h2⟩
theorem FnLists.SumR.unique {a b r r' : List Int} (h : FnLists.SumR a b r) (h' : FnLists.SumR a b r') : r = r' := by
  rcases h with ⟨h1, hv1⟩ | ⟨h1, rfl⟩
  · rcases h' with ⟨h2, hv2⟩ | ⟨h2, rfl⟩
    · exact asc_ext hv1.1 hv2.1 (fun x => (hv1.2 x).trans (hv2.2 x).symm)
    · exact absurd h1 h2
  · rcases h' with ⟨h2, hv2⟩ | ⟨h2, rfl⟩
    · exact absurd h2 h1
    · rfl
theorem FnLists.j0_ev (l : List Int) (hl : l.length < 4611686018427387904) : Ev (fun k => laws_FnLists.j0 k l false) true := by
  obtain ⟨t, ht, hz, hx⟩ := spec_DrawListText.ev l hl
  have hw : ∀ x ∈ t, -9223372036854775808 ≤ x ∧ x ≤ 9223372036854775807 := fun x hm => by have := hx x hm; omega
  have hs := listB_size t hw
  refine Ev.step (fun k => by rw [laws_FnLists.j0]) ?_
  refine ev_neg (by simp) (Ev.bind ht (Ev.bind (impl_ListText.ev t (by omega) hw) (Ev.bind (impl_ParseList.ev (listB t) (by omega)) (Ev.bind (impl_ListText.ev t (by omega) hw) (Ev.bind (spec_ListText.ev t (by omega) hw) (ev_pos (by trivial) ?_))))))
  rw [parseLV_list (fun x hm => by have := hx x hm; omega)]
  refine ev_pos rfl (Ev.bind (laws_sameInts.ev t t (by omega)) ?_)
  rw [B_true rfl]
  exact Ev.now _
theorem FnLists : laws_FnLists.Pure := by
  intro l0 hl h1 hw
  have hl' : l0.length < 4611686018427387904 := by omega
  refine ev_rounds ?_
  unfold laws_FnLists.f laws_big.f
  simp only [Option.bind_some]
  by_cases h : (l0.length : Int) > 1048576
  · exact ev_pos (decide_eq_true h) (Ev.now _)
  · refine ev_neg (by simpa using h) ?_
    obtain ⟨a, b, hd1⟩ := spec_DrawGcdOf.ev l0 hl'
    obtain ⟨L, hd2, hz2⟩ := spec_DrawSortList.ev l0 hl'
    obtain ⟨x, y, hd3, hx3, hy3⟩ := spec_DrawSumsOf.ev l0 hl'
    obtain ⟨u, v, hd4, hu4, hv4⟩ := spec_DrawSharedOf.ev l0 hl'
    obtain ⟨g, n, hd5, hz5⟩ := spec_DrawHasNumber.ev l0 hl'
    obtain ⟨t, hd6, hz6⟩ := spec_DrawIsAscending.ev l0 hl'
    obtain ⟨p, hd7, hz7⟩ := spec_DrawParseList.ev l0 hl'
    obtain ⟨s, es, hs1, hs2⟩ := impl_SortList.eq L (by omega)
    obtain ⟨s', es', hs1', hs2'⟩ := spec_SortList.ev L (by omega)
    obtain rfl := hs1.unique hs1'
    obtain ⟨m, em, hm, hml⟩ := spec_SumsOf.ev x y (by omega) (by omega)
    obtain ⟨m', em', hm'⟩ := impl_SumsOf.ev x y (by omega) (by omega)
    obtain rfl := FnLists.SumR.unique hm hm'
    obtain ⟨m'', em'', hm''⟩ := impl_SumsOf.ev y x (by omega) (by omega)
    obtain rfl := FnLists.SumR.unique hm (FnLists.SumR.symm hm'')
    obtain ⟨r, er, hr1, hr2, hrl⟩ := spec_SharedOf.ev u v (by omega) (by omega)
    obtain ⟨r', er', hr1', hr2'⟩ := impl_SharedOf.ev u v (by omega) (by omega)
    obtain rfl : r = r' := asc_ext hr1 hr1' (fun z => (hr2 z).trans (hr2' z).symm)
    have hpl := parseLV_length p
    refine Ev.bind hd1 (Ev.bind (impl_GcdOf.ev a b) (Ev.bind hd2 (Ev.bind hd3 (Ev.bind hd4 (Ev.bind hd5 (Ev.bind hd6 ?_))))))
    rw [es]
    simp only [Option.bind_some]
    refine Ev.bind hd7 (Ev.bind (impl_ParseList.ev p (by omega)) (Ev.bind (spec_ParseList.ev p (by omega)) (Ev.bind (spec_GcdOf.ev a b) (ev_pos (by trivial) ?_))))
    by_cases c : gcdV a b > 0
    · refine ev_pos c (ev_neg (by omega) (ev_pos (FnLists.gcd_tmod c).1 (ev_pos (FnLists.gcd_tmod c).2 ?_)))
      refine Ev.bind es' (Ev.bind (laws_sameInts.ev s s (by omega)) (ev_pos (B_true rfl) ?_))
      refine Ev.bind (spec_IsAscending.ev s (by omega)) (ev_pos (B_true (asc_iff.2 hs1.1)) ?_)
      refine Ev.bind em' (Ev.bind em (Ev.bind (laws_sameInts.ev m m (by omega)) (ev_pos (B_true rfl) ?_)))
      refine Ev.bind em' (Ev.bind em'' (Ev.bind (laws_sameInts.ev m m (by omega)) (ev_pos (B_true rfl) ?_)))
      refine Ev.bind er' (Ev.bind er (Ev.bind (laws_sameInts.ev r r (by omega)) (ev_pos (B_true rfl) ?_)))
      refine Ev.bind (impl_HasNumber.ev g n (by omega)) (Ev.bind (spec_HasNumber.ev g n (by omega)) (ev_neg (by simp) ?_))
      refine Ev.bind (impl_IsAscending.ev t (by omega)) (Ev.bind (spec_IsAscending.ev t (by omega)) (ev_neg (by simp) ?_))
      refine Ev.bind (impl_GcdOfList.ev L (by omega)) (Ev.bind (spec_GcdOfList.ev L (by omega)) (ev_pos (by trivial) (ev_neg (by simp) ?_)))
      refine Ev.bind (laws_sameInts.ev _ _ (by omega)) ?_
      rw [B_true rfl]
      exact FnLists.j0_ev l0 hl'
    · refine ev_neg c ?_
      refine Ev.bind es' (Ev.bind (laws_sameInts.ev s s (by omega)) (ev_pos (B_true rfl) ?_))
      refine Ev.bind (spec_IsAscending.ev s (by omega)) (ev_pos (B_true (asc_iff.2 hs1.1)) ?_)
      refine Ev.bind em' (Ev.bind em (Ev.bind (laws_sameInts.ev m m (by omega)) (ev_pos (B_true rfl) ?_)))
      refine Ev.bind em' (Ev.bind em'' (Ev.bind (laws_sameInts.ev m m (by omega)) (ev_pos (B_true rfl) ?_)))
      refine Ev.bind er' (Ev.bind er (Ev.bind (laws_sameInts.ev r r (by omega)) (ev_pos (B_true rfl) ?_)))
      refine Ev.bind (impl_HasNumber.ev g n (by omega)) (Ev.bind (spec_HasNumber.ev g n (by omega)) (ev_neg (by simp) ?_))
      refine Ev.bind (impl_IsAscending.ev t (by omega)) (Ev.bind (spec_IsAscending.ev t (by omega)) (ev_neg (by simp) ?_))
      refine Ev.bind (impl_GcdOfList.ev L (by omega)) (Ev.bind (spec_GcdOfList.ev L (by omega)) (ev_pos (by trivial) (ev_neg (by simp) ?_)))
      refine Ev.bind (laws_sameInts.ev _ _ (by omega)) ?_
      rw [B_true rfl]
      exact FnLists.j0_ev l0 hl'

end Go.Proofs.YthednemidaegkaaGreatDoor.Pure
