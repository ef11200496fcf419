/- Plain law of sorted lists, of minimal generators, and what a semigroup is. -/
import Derived.Test.YtbagfnppeidonaaM2
namespace Go.Proofs.YtbagfnppeidonaaM
open Go.RowKit Go.Proofs.YtbagfnppeidonaaW.PrintWords Go.Proofs.YtbagfnppeidonaaW.PrintLast Go.Proofs.YtbagfnppeidonaaW.PrintMore
set_option linter.unusedVariables false
set_option linter.unusedSimpArgs false
theorem asc_iff {l : List Int} : Asc l ↔ l.Pairwise (· < ·) := by
  constructor
  · intro h
    rw [List.pairwise_iff_getElem]
    intro i j hi hj hij
    have := asc_lt h (j - (i + 1)) i (by omega)
    rw [show i + 1 + (j - (i + 1)) = j by omega, getD_get hi, getD_get hj] at this
    exact this
  · intro h j hj
    rw [List.pairwise_iff_getElem] at h
    have := h j (j + 1) (by omega) hj (by omega)
    rw [getD_get (by omega), getD_get hj]
    exact this
theorem asc_ext : ∀ {s t : List Int}, s.Pairwise (· < ·) → t.Pairwise (· < ·) → (∀ x, x ∈ s ↔ x ∈ t) → s = t := by
  intro s
  induction s with
  | nil =>
    intro t _ _ h
    cases t with
    | nil => rfl
    | cons y t => exact absurd ((h y).2 (by simp)) (by simp)
  | cons x s ih =>
    intro t hs ht h
    cases t with
    | nil => exact absurd ((h x).1 (by simp)) (by simp)
    | cons y t =>
      rw [List.pairwise_cons] at hs ht
      have hxy : x = y := by
        rcases List.mem_cons.1 ((h x).1 (by simp)) with e | e
        · exact e
        · rcases List.mem_cons.1 ((h y).2 (by simp)) with e2 | e2
          · exact e2.symm
          · have a := ht.1 x e
            have b := hs.1 y e2
            omega
      subst hxy
      rw [ih hs.2 ht.2 (fun z => ?_)]
      constructor
      · intro hz
        rcases List.mem_cons.1 ((h z).1 (by simp [hz])) with e | e
        · have := hs.1 z hz; omega
        · exact e
      · intro hz
        rcases List.mem_cons.1 ((h z).2 (by simp [hz])) with e | e
        · have := ht.1 z hz; omega
        · exact e
/-- s is l in ascending order, each number once. -/
def IsSort (l s : List Int) : Prop := s.Pairwise (· < ·) ∧ ∀ x, x ∈ s ↔ x ∈ l
theorem IsSort.unique {l s t : List Int} (h : IsSort l s) (h' : IsSort l t) : s = t := asc_ext h.1 h'.1 (fun x => (h.2 x).trans (h'.2 x).symm)
theorem IsSort.self {l : List Int} (h : Asc l) : IsSort l l := ⟨asc_iff.1 h, fun _ => Iff.rfl⟩
theorem insert_sorted {s : List Int} (hs : s.Pairwise (· < ·)) (at_ : Nat) (hat : at_ ≤ s.length) (v : Int) (hlo : 0 < at_ → s.getD (at_ - 1) 0 < v) (hhi : ∀ i, at_ ≤ i → i < s.length → v < s.getD i 0) :
    (s.take at_ ++ [v] ++ s.drop at_).Pairwise (· < ·) ∧ ∀ x, x ∈ s.take at_ ++ [v] ++ s.drop at_ ↔ x ∈ s ∨ x = v := by
  have hmem : ∀ x, x ∈ s.take at_ ++ [v] ++ s.drop at_ ↔ x ∈ s ∨ x = v := by
    intro x
    have e : x ∈ s ↔ x ∈ s.take at_ ∨ x ∈ s.drop at_ := by rw [← List.mem_append, List.take_append_drop]
    simp only [List.mem_append, List.mem_singleton]
    rw [e]
    constructor
    · rintro ((h | h) | h)
      · exact .inl (.inl h)
      · exact .inr h
      · exact .inl (.inr h)
    · rintro ((h | h) | h)
      · exact .inl (.inl h)
      · exact .inr h
      · exact .inl (.inr h)
  refine ⟨?_, hmem⟩
  have hl : ∀ a ∈ s.take at_, a < v := by
    intro a ha
    obtain ⟨i, hi, e⟩ := mem_getD ha
    rw [List.length_take] at hi
    have hv := hlo (by omega)
    have ea : a = s.getD i 0 := by
      rw [← e]
      simp only [List.getD_eq_getElem?_getD, List.getElem?_take]
      rw [if_pos (by omega)]
    rw [ea]
    by_cases e2 : i = at_ - 1
    · rw [e2]; exact hv
    · have := asc_lt (asc_iff.2 hs) (at_ - 1 - (i + 1)) i (by omega)
      rw [show i + 1 + (at_ - 1 - (i + 1)) = at_ - 1 by omega] at this
      omega
  have hr : ∀ b ∈ s.drop at_, v < b := by
    intro b hb
    obtain ⟨i, hi, e⟩ := mem_getD hb
    rw [List.length_drop] at hi
    have eb : b = s.getD (at_ + i) 0 := by
      rw [← e]
      simp only [List.getD_eq_getElem?_getD, List.getElem?_drop]
    rw [eb]
    exact hhi _ (by omega) (by omega)
  rw [List.pairwise_append, List.pairwise_append]
  refine ⟨⟨hs.sublist (List.take_sublist _ _), List.pairwise_singleton _ _, fun a ha b hb => ?_⟩, hs.sublist (List.drop_sublist _ _), fun a ha b hb => ?_⟩
  · rw [List.mem_singleton.1 hb]; exact hl a ha
  · rcases List.mem_append.1 ha with ha | ha
    · exact Int.lt_trans (hl a ha) (hr b hb)
    · rw [List.mem_singleton.1 ha]; exact hr b hb
/-- What is kept of the first k numbers of s: those that are no sums of the ones before. -/
noncomputable def minK (s : List Int) : Nat → List Int
  | 0 => []
  | k + 1 => minK s k ++ (if B (k = 0 ∨ ¬ Gen (s.take k) (s.getD k 0)) = true then [s.getD k 0] else [])
theorem minK_sub (s : List Int) : ∀ k, k ≤ s.length → ∀ x ∈ minK s k, x ∈ s.take k := by
  intro k
  induction k with
  | zero => intro _ x hx; simp [minK] at hx
  | succ k ih =>
    intro hk x hx
    rw [List.take_succ_eq_append_getElem (by omega)]
    rw [minK] at hx
    rcases List.mem_append.1 hx with hx | hx
    · exact List.mem_append.2 (.inl (ih (by omega) x hx))
    · split at hx
      · rw [List.mem_singleton.1 hx, getD_get (by omega)]; exact List.mem_append.2 (.inr (List.mem_singleton.2 rfl))
      · simp at hx
theorem minK_length (s : List Int) : ∀ k, (minK s k).length ≤ k := by
  intro k
  induction k with
  | zero => simp [minK]
  | succ k ih => rw [minK, List.length_append]; split <;> simp <;> omega
/-- What is kept makes the same sums. -/
theorem minK_gen (s : List Int) : ∀ k, k ≤ s.length → ∀ n, Gen (minK s k) n ↔ Gen (s.take k) n := by
  intro k
  induction k with
  | zero => intro _ n; simp [minK]
  | succ k ih =>
    intro hk n
    constructor
    · exact Gen.sub (minK_sub s (k + 1) hk)
    · intro hn
      refine hn.mono (fun x hx => ?_)
      rw [List.take_succ_eq_append_getElem (by omega)] at hx
      rw [minK]
      rcases List.mem_append.1 hx with hx | hx
      · have h1 := (ih (by omega) x).2 (.one hx)
        exact h1.sub (fun y hy => List.mem_append.2 (.inl hy))
      · rw [List.mem_singleton.1 hx]
        by_cases hc : B (k = 0 ∨ ¬ Gen (s.take k) (s.getD k 0)) = true
        · rw [if_pos hc]
          refine .one (List.mem_append.2 (.inr ?_))
          rw [getD_get (by omega)]; simp
        · rw [B_iff] at hc
          have h2 : Gen (s.take k) (s.getD k 0) := by
            apply Classical.byContradiction
            intro h; exact hc (.inr h)
          rw [getD_get (by omega)] at h2
          have h3 := (ih (by omega) _).2 h2
          exact h3.sub (fun y hy => List.mem_append.2 (.inl hy))
theorem minK_asc (s : List Int) (hs : s.Pairwise (· < ·)) : ∀ k, k ≤ s.length → (minK s k).Pairwise (· < ·) := by
  intro k
  induction k with
  | zero => intro _; simp [minK]
  | succ k ih =>
    intro hk
    rw [minK, List.pairwise_append]
    refine ⟨ih (by omega), by split <;> simp, fun a ha b hb => ?_⟩
    split at hb
    · rw [List.mem_singleton.1 hb]
      have ha' := minK_sub s k (by omega) a ha
      obtain ⟨i, hi, e⟩ := mem_getD ha'
      rw [List.length_take] at hi
      have ea : a = s.getD i 0 := by
        rw [← e]
        simp only [List.getD_eq_getElem?_getD, List.getElem?_take]
        rw [if_pos (by omega)]
      rw [ea]
      have := asc_lt (asc_iff.2 hs) (k - (i + 1)) i (by omega)
      rwa [show i + 1 + (k - (i + 1)) = k by omega] at this
    · simp at hb
/-- No number is a sum of the ones before it. -/
def Min (s : List Int) : Prop := ∀ i, 1 ≤ i → i < s.length → ¬ Gen (s.take i) (s.getD i 0)
theorem minK_eq_iff (s : List Int) : ∀ k, k ≤ s.length → ((minK s k = s.take k ↔ ∀ i, 1 ≤ i → i < k → ¬ Gen (s.take i) (s.getD i 0)) ∧ ((minK s k).length = k → minK s k = s.take k)) := by
  intro k
  induction k with
  | zero => intro _; exact ⟨⟨fun _ i h1 h2 => by omega, fun _ => by simp [minK]⟩, fun _ => by simp [minK]⟩
  | succ k ih =>
    intro hk
    obtain ⟨i1, i2⟩ := ih (by omega)
    have hlen := minK_length s k
    have ht : s.take (k + 1) = s.take k ++ [s.getD k 0] := by rw [List.take_succ_eq_append_getElem (by omega), getD_get (by omega)]
    rw [minK, ht]
    by_cases hc : B (k = 0 ∨ ¬ Gen (s.take k) (s.getD k 0)) = true
    · rw [if_pos hc]
      rw [B_iff] at hc
      constructor
      · rw [List.append_left_inj, i1]
        constructor
        · intro h i h1 h2
          by_cases e : i = k
          · subst e
            rcases hc with hc | hc
            · omega
            · exact hc
          · exact h i h1 (by omega)
        · intro h i h1 h2
          exact h i h1 (by omega)
      · intro h
        rw [List.length_append] at h
        simp at h
        rw [i2 h]
    · rw [if_neg hc, List.append_nil]
      rw [B_iff] at hc
      have hne : minK s k ≠ s.take k ++ [s.getD k 0] := by
        intro h
        have := congrArg List.length h
        rw [List.length_append, List.length_take] at this
        simp at this
        omega
      refine ⟨⟨fun h => absurd h hne, fun h => ?_⟩, fun h => by omega⟩
      exfalso
      by_cases e : k = 0
      · exact hc (.inl e)
      · exact hc (.inr (h k (by omega) (by omega)))
noncomputable def minV (s : List Int) : List Int := minK s s.length
theorem minV_self {s : List Int} : minV s = s ↔ Min s := by
  have := (minK_eq_iff s s.length (Nat.le_refl _)).1
  rw [List.take_length] at this
  exact this
/-- A semigroup. -/
def SG (g : List Int) : Prop := (1 ≤ g.length ∧ g.length ≤ 12) ∧ (∀ x ∈ g, 1 ≤ x ∧ x ≤ 60) ∧ Asc g ∧ gcdLV g = 1 ∧ Min g ∧ ∀ n, 200 ≤ n → Gen g n
theorem SG.pos {g : List Int} (h : SG g) : ∀ x ∈ g, 1 ≤ x := fun x hx => (h.2.1 x hx).1
theorem SG.head {g : List Int} (h : SG g) : g.getD 0 0 ∈ g ∧ 1 ≤ g.getD 0 0 ∧ g.getD 0 0 ≤ 60 := by
  have hm : g.getD 0 0 ∈ g := getD_mem (by have := h.1; omega)
  exact ⟨hm, h.2.1 _ hm⟩
/-- Of classes all of whose great numbers are sums. -/
theorem ends_iff {g : List Int} {a : Int} (ha : a ∈ g) (ha1 : 1 ≤ a) : (∀ n, 200 ≤ n → Gen g n) ↔ ∀ n, 200 ≤ n → n < 200 + a → Gen g n := by
  constructor
  · intro h n h1 _; exact h n h1
  · intro h n hn
    have m0 := Int.emod_nonneg (n - 200) (show a ≠ 0 by omega)
    have m1 := Int.emod_lt_of_pos (n - 200) (show 0 < a by omega)
    refine Gen.up ha ha1 (h (200 + (n - 200) % a) (by omega) (by omega)) ?_ ?_
    · have := Int.emod_add_mul_ediv (n - 200) a
      have : 0 ≤ a * ((n - 200) / a) := Int.mul_nonneg (by omega) (Int.ediv_nonneg (by omega) (by omega))
      omega
    · rw [Int.add_emod_emod]
      congr 1; omega
/-- Generates' answer. -/
noncomputable def genV (l : List Int) (n : Int) : Bool := B (((∀ x ∈ l, 1 ≤ x ∧ x ≤ 60) ∧ 1 ≤ l.length ∧ l.length ≤ 20) ∧ (0 ≤ n ∧ n ≤ 1000000) ∧ Gen l n)
/-- Every class is reached where the common divisor is 1. -/
theorem IsLeasts.full {g : List Int} {a : Nat} {L : List Int} (h : IsLeasts g a L) (hag : (a : Int) ∈ g) (ha : 1 ≤ a) (hg : ∀ x ∈ g, 1 ≤ x ∧ x ≤ 60) (h1 : gcdLV g = 1) (r : Nat) (hr : r < a) : 0 ≤ L.getD r 0 := by
  apply Classical.byContradiction
  intro hc
  obtain ⟨m, hm, em⟩ := Cls.all (g := g) (a := (a : Int)) (by omega) hg (r : Int) (by rw [h1]; exact Int.one_dvd _)
  refine (h.2 r hr).1 (by omega) m hm ?_
  rw [em, Int.emod_eq_of_lt (by omega) (by omega)]
/-- The ends of all classes, as the least sums tell them. -/
theorem IsLeasts.ends_leasts {g : List Int} {a : Nat} {L : List Int} (h : IsLeasts g a L) (hag : (a : Int) ∈ g) (ha : 1 ≤ a) (hg : ∀ x ∈ g, 1 ≤ x ∧ x ≤ 60) (h1 : gcdLV g = 1) :
    (∀ r, r < a → L.getD r 0 - (a : Int) < 200) ↔ ∀ n, 200 ≤ n → Gen g n := by
  have full : ∀ r, r < a → 0 ≤ L.getD r 0 := by
    intro r hr
    apply Classical.byContradiction
    intro hc
    obtain ⟨m, hm, em⟩ := Cls.all (g := g) (a := (a : Int)) (by omega) hg (r : Int) (by rw [h1]; exact Int.one_dvd _)
    refine (h.2 r hr).1 (by omega) m hm ?_
    rw [em, Int.emod_eq_of_lt (by omega) (by omega)]
  constructor
  · intro hall n hn
    have e0 := Int.emod_nonneg n (show (a : Int) ≠ 0 by omega)
    have hr : (n % (a : Int)).toNat < a := by
      have := Int.emod_lt_of_pos n (show (0 : Int) < (a : Int) by omega)
      omega
    have e : (((n % (a : Int)).toNat : Nat) : Int) = n % (a : Int) := Int.toNat_of_nonneg e0
    have f0 := full _ hr
    have hl := ((h.2 _ hr).2 f0).1
    have ha2 := hall _ hr
    rw [h.gen hag ha]
    refine ⟨f0, ?_⟩
    apply Classical.byContradiction
    intro hc
    have hm := hl.2.1
    rw [e] at hm
    have hd : (a : Int) ∣ (L.getD (n % (a : Int)).toNat 0 - n) := by
      apply Int.dvd_of_emod_eq_zero
      rw [Int.sub_emod, hm, Int.sub_self, Int.zero_emod]
    have := Int.le_of_dvd (by omega) hd
    omega
  · intro hall r hr
    apply Classical.byContradiction
    intro hc
    have hl := ((h.2 r hr).2 (full r hr)).1
    have hg' := hall (L.getD r 0 - (a : Int)) (by omega)
    have := hl.2.2 _ hg' (by rw [Int.sub_emod_right]; exact hl.2.1)
    omega
end Go.Proofs.YtbagfnppeidonaaM
