/- Plain law: the least elements of the classes tell a semigroup; coordinates. -/
import Derived.Test.YtbagfnppeidonaaM8
namespace Go.Proofs.YtbagfnppeidonaaM
open Go.RowKit Go.Proofs.YtbagfnppeidonaaW.PrintWords Go.Proofs.YtbagfnppeidonaaW.PrintLast Go.Proofs.YtbagfnppeidonaaW.PrintMore
set_option linter.unusedVariables false
set_option linter.unusedSimpArgs false
theorem Gen.up' {g : List Int} {a w n : Int} (ha : Gen g a) (ha1 : 1 ≤ a) (hw : Gen g w) (hle : w ≤ n) (hm : n % a = w % a) : Gen g n := by
  have hd : (n - w) % a = 0 := by rw [Int.sub_emod, hm, Int.sub_self, Int.zero_emod]
  have e : a * ((n - w) / a) = n - w := Int.mul_ediv_cancel' (Int.dvd_of_emod_eq_zero hd)
  have e0 : 0 ≤ (n - w) / a := Int.ediv_nonneg (by omega) (by omega)
  have := hw.sum (ha.mul ((n - w) / a).toNat)
  rw [Int.toNat_of_nonneg e0, e] at this
  rwa [show w + (n - w) = n by omega] at this
/-- l is the row of least elements of the classes of s. -/
def ApOk (l s : List Int) : Prop := SG s ∧ (1 ≤ l.length ∧ l.length ≤ 60) ∧ Gen s (l.length : Int) ∧ IsAp s l.length l
theorem mod_lt {n : Nat} (hn : 1 ≤ n) (x : Int) : (x % (n : Int)).toNat < n ∧ (((x % (n : Int)).toNat : Nat) : Int) = x % (n : Int) := by
  have e0 := Int.emod_nonneg x (show (n : Int) ≠ 0 by omega)
  have e1 := Int.emod_lt_of_pos x (show (0 : Int) < (n : Int) by omega)
  omega
theorem ApOk.gen {l s : List Int} (h : ApOk l s) (x : Int) : Gen s x ↔ l.getD (x % (l.length : Int)).toNat 0 ≤ x := by
  obtain ⟨h1, h2, h3, h4⟩ := h
  obtain ⟨m1, m2⟩ := mod_lt h2.1 x
  have hl := h4.2 _ m1
  rw [m2] at hl
  exact ⟨fun hx => hl.2.2 x hx rfl, fun hx => Gen.up' h3 (by omega) hl.1 hx hl.2.1.symm⟩
theorem ApOk.unique {l s s' : List Int} (h : ApOk l s) (h' : ApOk l s') : s = s' :=
  min_unique h.1.pos h'.1.pos h.1.2.2.1 h'.1.2.2.1 h.1.2.2.2.2.1 h'.1.2.2.2.2.1 (fun n => by rw [h.gen, h'.gen])
theorem ApOk.at {l s : List Int} (h : ApOk l s) {r : Nat} (hr : r < l.length) : 0 ≤ l.getD r 0 ∧ l.getD r 0 < 200 + (l.length : Int) ∧ l.getD r 0 % (l.length : Int) = (r : Int) := by
  have hl := h.2.2.2.2 r hr
  have hb := hl.bound h.1 h.2.1.1 hr
  exact ⟨hb.1, hb.2, hl.2.1⟩
theorem ApOk.zero {l s : List Int} (h : ApOk l s) : l.getD 0 0 = 0 := by
  have h1 := h.2.1
  have hl := h.2.2.2.2 0 (by omega)
  have a := hl.2.2 0 .zero (by simp)
  have b := (h.at (r := 0) (by omega)).1
  omega
theorem ApOk.pos {l s : List Int} (h : ApOk l s) {r : Nat} (hr : r < l.length) (hr1 : 1 ≤ r) : 1 ≤ l.getD r 0 := by
  obtain ⟨a, b, c⟩ := h.at hr
  by_cases e : l.getD r 0 = 0
  · rw [e, Int.zero_emod] at c; omega
  · omega
theorem mem_drop1 {l : List Int} {x : Int} (h : x ∈ l.drop 1) : ∃ r, 1 ≤ r ∧ r < l.length ∧ x = l.getD r 0 := by
  obtain ⟨j, hj, e⟩ := mem_getD h
  rw [List.length_drop] at hj
  refine ⟨1 + j, by omega, by omega, ?_⟩
  rw [← e]
  simp only [List.getD_eq_getElem?_getD, List.getElem?_drop]
theorem drop1_mem {l : List Int} {r : Nat} (h1 : 1 ≤ r) (h2 : r < l.length) : l.getD r 0 ∈ l.drop 1 := by
  rw [getD_get h2, List.mem_drop_iff_getElem]
  exact ⟨r - 1, by omega, by congr 1; omega⟩
/-- The modulus and the least elements make the semigroup. -/
theorem ApOk.minimal {l s : List Int} (h : ApOk l s) {t : List Int} (ht : IsSort ((l.length : Int) :: l.drop 1) t) : minV t = s := by
  have h2 := h.2.1
  have hp : ∀ x ∈ t, 1 ≤ x := fun x hx => by
    rcases List.mem_cons.1 ((ht.2 x).1 hx) with rfl | hx
    · omega
    · obtain ⟨r, r1, r2, rfl⟩ := mem_drop1 hx
      exact h.pos r2 r1
  refine min_unique (fun x hx => hp x (minV_mem hx)) h.1.pos (minV_asc ht.1) h.1.2.2.1 (minV_min ht.1 hp) h.1.2.2.2.2.1 (fun n => ?_)
  rw [minV_gen]
  constructor
  · refine Gen.mono (fun x hx => ?_)
    rcases List.mem_cons.1 ((ht.2 x).1 hx) with rfl | hx
    · exact h.2.2.1
    · obtain ⟨r, r1, r2, rfl⟩ := mem_drop1 hx
      exact (h.2.2.2.2 r r2).1
  · intro hn
    have hle := (h.gen n).1 hn
    obtain ⟨m1, m2⟩ := mod_lt h2.1 n
    have hmod := (h.at m1).2.2
    rw [m2] at hmod
    have hN : (l.length : Int) ∈ t := (ht.2 _).2 (List.mem_cons_self ..)
    refine Gen.up hN (by omega) ?_ hle hmod.symm
    by_cases e : (n % (l.length : Int)).toNat = 0
    · rw [e, h.zero]; exact .zero
    · exact .one ((ht.2 _).2 (List.mem_cons_of_mem _ (drop1_mem (by omega) m1)))
/-- What FromApery answers. -/
def FrApV (l : List Int) (r : List Int × Bool) : Prop := (∃ s, ApOk l s ∧ r = (s, true)) ∨ ((¬ ∃ s, ApOk l s) ∧ r = ([], false))
theorem FrApV.unique {l : List Int} {r r' : List Int × Bool} (h : FrApV l r) (h' : FrApV l r') : r = r' := by
  rcases h with ⟨s, h1, rfl⟩ | ⟨h1, rfl⟩
  · rcases h' with ⟨s', h1', rfl⟩ | ⟨h1', rfl⟩
    · rw [h1.unique h1']
    · exact absurd ⟨s, h1⟩ h1'
  · rcases h' with ⟨s', h1', rfl⟩ | ⟨h1', rfl⟩
    · exact absurd ⟨s', h1'⟩ h1
    · rfl
theorem FrApV.length {l : List Int} {r : List Int × Bool} (h : FrApV l r) : r.1.length ≤ 12 := by
  rcases h with ⟨s, h1, rfl⟩ | ⟨h1, rfl⟩
  · exact h1.1.1.2
  · simp
theorem FrApV.ok {l : List Int} {r : List Int × Bool} (h : FrApV l r) (hr : r.2 = true) : ApOk l r.1 := by
  rcases h with ⟨s, h1, rfl⟩ | ⟨h1, rfl⟩
  · exact h1
  · simp at hr
theorem ApOk.apV {l s : List Int} (h : ApOk l s) {L : List Int} (hL : ApV s (l.length : Int) L) : L = l := by
  rcases hL with ⟨h1, rfl⟩ | ⟨h1, h2⟩
  · exact absurd ⟨h.1, h.2.2.1, by have := h.2.1; omega, by have := h.2.1; omega⟩ h1
  · rw [Int.toNat_natCast] at h2
    exact h2.unique h.2.2.2
theorem ApOk.of_apV {l s : List Int} (h0 : 1 ≤ l.length) (hL : ApV s (l.length : Int) l) : ApOk l s := by
  rcases hL with ⟨h1, rfl⟩ | ⟨h1, h2⟩
  · simp at h0
  · rw [Int.toNat_natCast] at h2
    exact ⟨h1.1, by omega, h1.2.1, h2⟩
/-- The gaps that a row of least elements tells. -/
def ApGaps (l gs : List Int) : Prop := ∀ x, x ∈ gs ↔ 0 ≤ x ∧ x < l.getD (x % (l.length : Int)).toNat 0
theorem ApOk.gaps {l s gs t : List Int} (h : ApOk l s) (hg : ApGaps l gs) (ht : IsSort gs t) : t = gapsV s :=
  asc_ext ht.1 (gapsV_asc s) (fun x => by
    rw [ht.2, hg, gapsV_mem h.1, h.gen]
    constructor <;> (rintro ⟨a, b⟩; exact ⟨a, by omega⟩))
/-- The row of gaps, as far as it is written: classes below j, and of class j the numbers below x. -/
def ApPart (l gs : List Int) (j x : Int) : Prop := ∀ y, y ∈ gs ↔ (0 ≤ y ∧ y < l.getD (y % (l.length : Int)).toNat 0) ∧ (y % (l.length : Int) < j ∨ (y % (l.length : Int) = j ∧ y < x))
theorem ApPart.start (l : List Int) : ApPart l [] 0 0 := by
  intro y
  simp only [List.not_mem_nil, false_iff]
  rintro ⟨⟨h1, h2⟩, h3⟩
  rcases h3 with h3 | ⟨_, h3⟩
  · have := Int.emod_nonneg y (show (l.length : Int) ≠ 0 by
      intro e
      have e0 : l = [] := List.length_eq_zero_iff.1 (by omega)
      subst e0
      simp at h2; omega)
    omega
  · omega
theorem ApPart.put {l gs : List Int} {j : Nat} {x : Int} (h : ApPart l gs j x) (hx0 : 0 ≤ x) (hxm : x % (l.length : Int) = (j : Int)) (hxl : x < l.getD j 0) : ApPart l (gs ++ [x]) j (x + (l.length : Int)) := by
  intro y
  rw [List.mem_append, List.mem_singleton, h y]
  constructor
  · rintro (⟨h1, h2⟩ | rfl)
    · refine ⟨h1, ?_⟩
      rcases h2 with h2 | ⟨h2, h3⟩
      · exact .inl h2
      · exact .inr ⟨h2, by omega⟩
    · refine ⟨⟨hx0, by rw [hxm, Int.toNat_natCast]; exact hxl⟩, .inr ⟨hxm, ?_⟩⟩
      have : 0 ≤ (l.length : Int) := by omega
      by_cases e : l.length = 0
      · rw [List.getD_eq_getElem?_getD, List.getElem?_eq_none (by omega)] at hxl
        simp at hxl; omega
      · omega
  · rintro ⟨h1, h2⟩
    rcases h2 with h2 | ⟨h2, h3⟩
    · exact .inl ⟨h1, .inl h2⟩
    · by_cases e : y < x
      · exact .inl ⟨h1, .inr ⟨h2, e⟩⟩
      · right
        have hd : (l.length : Int) ∣ (y - x) := by
          apply Int.dvd_of_emod_eq_zero
          rw [Int.sub_emod, h2, hxm, Int.sub_self, Int.zero_emod]
        by_cases e2 : y = x
        · exact e2
        · have := Int.le_of_dvd (by omega) hd
          omega
theorem ApPart.next {l gs : List Int} {j : Nat} {x : Int} (h : ApPart l gs j x) (hxl : l.getD j 0 ≤ x) : ApPart l gs ((j + 1 : Nat) : Int) ((j + 1 : Nat) : Int) := by
  intro y
  rw [h y]
  constructor
  · rintro ⟨h1, h2⟩
    refine ⟨h1, .inl ?_⟩
    rcases h2 with h2 | ⟨h2, h3⟩ <;> omega
  · rintro ⟨h1, h2⟩
    refine ⟨h1, ?_⟩
    by_cases e : y % (l.length : Int) = (j : Int)
    · right
      refine ⟨e, ?_⟩
      have := h1.2
      rw [e, Int.toNat_natCast] at this
      omega
    · left
      rcases h2 with h2 | ⟨h2, h3⟩
      · omega
      · exfalso
        have h0 := Int.emod_lt_of_pos y (show 0 < (l.length : Int) by
          apply Classical.byContradiction
          intro hc
          have e0 : l = [] := List.length_eq_zero_iff.1 (by omega)
          subst e0
          have := h1.2
          simp at this; omega)
        have h00 : y % (l.length : Int) ≤ y := by
          rcases Int.lt_or_le y (l.length : Int) with hlt | hle
          · rw [Int.emod_eq_of_lt h1.1 hlt]; omega
          · omega
        omega
theorem ApPart.done {l gs : List Int} {x : Int} (h : ApPart l gs (l.length : Int) x) (h0 : 1 ≤ l.length) : ApGaps l gs := by
  intro y
  rw [h y]
  have := Int.emod_lt_of_pos y (show 0 < (l.length : Int) by omega)
  exact ⟨fun hh => hh.1, fun hh => ⟨hh, .inl this⟩⟩
/-- The row of least elements that coordinates tell. -/
def CoAp (l A : List Int) : Prop := A.length = l.length + 1 ∧ A.getD 0 0 = 0 ∧ ∀ i : Nat, i < l.length → A.getD (i + 1) 0 = ((i : Int) + 1) + ((l.length : Int) + 1) * l.getD i 0
theorem CoAp.unique {l A A' : List Int} (h : CoAp l A) (h' : CoAp l A') : A = A' := by
  apply List.ext_getElem (h.1.trans h'.1.symm)
  intro i h1 h2
  have e : A.getD i 0 = A'.getD i 0 := by
    cases i with
    | zero => rw [h.2.1, h'.2.1]
    | succ i => rw [h.2.2 i (by have := h.1; omega), h'.2.2 i (by have := h.1; omega)]
  rwa [getD_get h1, getD_get h2] at e
def CoR (l : List Int) : Prop := (∀ x ∈ l, 1 ≤ x ∧ x ≤ 200) ∧ l.length ≤ 59
theorem CoAp.noclash {l A s : List Int} (hA : CoAp l A) (h : ApOk A s) (hr : CoR l) {c : Int × Int × Bool} (hc : CC l c) : c.2.2 = false := by
  have hm : (A.length : Int) = (l.length : Int) + 1 := by have := hA.1; omega
  rcases hc with ⟨j, h1, h2, _⟩ | ⟨_, ⟨rfl, _⟩ | ⟨a, b, a1, ab, b1, hv, rfl, _⟩⟩
  · exact absurd (hr.1 _ (getD_mem h1)) h2
  · rfl
  · exfalso
    have ea := hA.2.2 (a - 1) (by omega)
    have eb := hA.2.2 (b - 1) (by omega)
    rw [show a - 1 + 1 = a by omega, show ((a - 1 : Nat) : Int) + 1 = (a : Int) by omega] at ea
    rw [show b - 1 + 1 = b by omega, show ((b - 1 : Nat) : Int) + 1 = (b : Int) by omega] at eb
    have ga := (h.2.2.2.2 a (by have := hA.1; omega)).1
    have gb := (h.2.2.2.2 b (by have := hA.1; omega)).1
    have gs := ga.sum gb
    have hle := (h.gen _).1 gs
    have ma := (h.at (r := a) (by have := hA.1; omega)).2.2
    have mb := (h.at (r := b) (by have := hA.1; omega)).2.2
    rw [Int.add_emod, ma, mb] at hle
    rw [ea, eb, hm] at hle
    have key : (a : Int) + ((l.length : Int) + 1) * l.getD (a - 1) 0 + ((b : Int) + ((l.length : Int) + 1) * l.getD (b - 1) 0) = (a : Int) + b + ((l.length : Int) + 1) * (l.getD (a - 1) 0 + l.getD (b - 1) 0) := by rw [Int.mul_add]; omega
    rw [key] at hle
    rcases hv with ⟨v1, v2⟩ | ⟨v1, v2⟩
    · rw [Int.emod_eq_of_lt (by omega) (by omega), show ((a : Int) + (b : Int)).toNat = a + b - 1 + 1 by omega, hA.2.2 (a + b - 1) (by omega)] at hle
      have : ((l.length : Int) + 1) * l.getD (a + b - 1) 0 ≤ ((l.length : Int) + 1) * (l.getD (a - 1) 0 + l.getD (b - 1) 0) := by omega
      have := Int.le_of_mul_le_mul_left this (by omega)
      omega
    · have e1 : ((a : Int) + (b : Int)) % ((l.length : Int) + 1) = (a : Int) + b - ((l.length : Int) + 1) := by
        rw [← Int.sub_emod_right, Int.emod_eq_of_lt (by omega) (by omega)]
      rw [e1, show ((a : Int) + (b : Int) - ((l.length : Int) + 1)).toNat = a + b - (l.length + 1) - 1 + 1 by omega, hA.2.2 (a + b - (l.length + 1) - 1) (by omega)] at hle
      have : ((l.length : Int) + 1) * l.getD (a + b - (l.length + 1) - 1) 0 ≤ ((l.length : Int) + 1) * (l.getD (a - 1) 0 + l.getD (b - 1) 0 + 1) := by rw [Int.mul_add _ _ 1]; omega
      have := Int.le_of_mul_le_mul_left this (by omega)
      omega
theorem SG.head_le {s : List Int} (h : SG s) {x : Int} (hx : Gen s x) (h1 : 1 ≤ x) : s.getD 0 0 ≤ x := by
  rcases hx.inv with h0 | ⟨z, hz, hg⟩
  · omega
  · have := hg.nonneg h.pos
    obtain ⟨j, hj, rfl⟩ := mem_getD hz
    by_cases e : j = 0
    · subst e; omega
    · have := asc_lt h.2.2.1 (j - 1) 0 (by omega)
      rw [show 0 + 1 + (j - 1) = j by omega] at this
      omega
theorem CoAp.head {l A s : List Int} (hA : CoAp l A) (h : ApOk A s) (hr : CoR l) : s.getD 0 0 = (l.length : Int) + 1 := by
  have hm : (A.length : Int) = (l.length : Int) + 1 := by have := hA.1; omega
  obtain ⟨hs1, hs2, hs3⟩ := h.1.head
  have hle := h.1.head_le h.2.2.1 (by omega)
  apply Classical.byContradiction
  intro hc
  have hlt : s.getD 0 0 < (A.length : Int) := by omega
  have := (h.gen _).1 (.one hs1)
  rw [Int.emod_eq_of_lt (by omega) hlt] at this
  have e := hA.2.2 ((s.getD 0 0).toNat - 1) (by omega)
  rw [show (s.getD 0 0).toNat - 1 + 1 = (s.getD 0 0).toNat by omega] at e
  rw [e] at this
  have hp := (hr.1 _ (getD_mem (l := l) (j := (s.getD 0 0).toNat - 1) (by omega))).1
  have hq : (l.length : Int) + 1 ≤ ((l.length : Int) + 1) * l.getD ((s.getD 0 0).toNat - 1) 0 := by
    have := Int.mul_le_mul_of_nonneg_left hp (show 0 ≤ (l.length : Int) + 1 by omega)
    omega
  omega
theorem CoAp.back {l A s : List Int} (hA : CoAp l A) (h : ApOk A s) (hr : CoR l) {w : List Int} (hw : CoV s w) : w = l := by
  have hh := hA.head h hr
  rcases hw with ⟨h1, _⟩ | ⟨_, L, hL, rfl⟩
  · exact absurd h.1 h1
  · rw [hh] at hL ⊢
    have e1 : ((l.length : Int) + 1).toNat = A.length := by have := hA.1; omega
    rw [e1] at hL
    obtain rfl := hL.unique h.2.2.2
    apply List.ext_getElem
    · simp [hA.1]
    · intro i i1 i2
      have e := hA.2.2 i i2
      have hi : i + 1 < L.length := by have := hA.1; omega
      rw [getD_get hi, getD_get i2] at e
      rw [List.getElem_map, List.getElem_drop]
      have e2 : L[1 + i] = L[i + 1] := by congr 1; omega
      rw [e2, e, Int.add_mul_ediv_left _ _ (by omega), Int.ediv_eq_zero_of_lt (by omega) (by omega), Int.zero_add]
/-- What FromCoordinates answers. -/
def FcV (l : List Int) (r : List Int × Bool) : Prop := (CoR l ∧ ∃ A, CoAp l A ∧ FrApV A r) ∨ (¬ CoR l ∧ r = ([], false))
theorem FcV.unique {l : List Int} {r r' : List Int × Bool} (h : FcV l r) (h' : FcV l r') : r = r' := by
  rcases h with ⟨h1, A, h2, h3⟩ | ⟨h1, rfl⟩
  · rcases h' with ⟨h1', A', h2', h3'⟩ | ⟨h1', rfl⟩
    · obtain rfl := h2.unique h2'
      exact h3.unique h3'
    · exact absurd h1 h1'
  · rcases h' with ⟨h1', A', h2', h3'⟩ | ⟨h1', rfl⟩
    · exact absurd h1' h1
    · rfl
theorem FcV.length {l : List Int} {r : List Int × Bool} (h : FcV l r) : r.1.length ≤ 12 := by
  rcases h with ⟨h1, A, h2, h3⟩ | ⟨h1, rfl⟩
  · exact h3.length
  · simp
end Go.Proofs.YtbagfnppeidonaaM
