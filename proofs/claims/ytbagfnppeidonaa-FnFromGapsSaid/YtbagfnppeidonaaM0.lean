/- Plain helpers: rounds, wrapped numbers, reads of lists, tests as Bools. -/
import Derived.Test.YtbagfnppeidonaaVMore
namespace Go.Proofs.YtbagfnppeidonaaM
open Go.RowKit Go.Proofs.YtbagfnppeidonaaW.PrintWords Go.Proofs.YtbagfnppeidonaaW.PrintLast Go.Proofs.YtbagfnppeidonaaW.PrintMore
set_option linter.unusedVariables false
set_option linter.unusedSimpArgs false

theorem w64 {n : Int} (h : -9223372036854775808 ≤ n) (h' : n ≤ 9223372036854775807) : wrap64 n = n := by
  unfold wrap64
  omega
theorem wadd1 {j : Nat} (h : j < 4611686018427387904) : wrap64 ((j : Int) + 1) = ((j + 1 : Nat) : Int) := by
  rw [w64 (by omega) (by omega)]
  omega
theorem wsub1 {a : Nat} (h : 1 ≤ a) (h' : a < 4611686018427387904) : wrap64 ((a : Int) - 1) = ((a - 1 : Nat) : Int) := by
  rw [w64 (by omega) (by omega)]
  omega
theorem waddn {a b : Nat} (h : a < 4611686018427387904) (h' : b < 4611686018427387904) : wrap64 ((a : Int) + (b : Int)) = ((a + b : Nat) : Int) := by
  rw [w64 (by omega) (by omega)]
  omega
theorem rd_nat (l : List Int) (j : Nat) : rd l (j : Int) = l.getD j 0 := by simp [rd]
theorem getD_get {l : List Int} {j : Nat} (h : j < l.length) : l.getD j 0 = l[j] := by simp [h]
theorem getD_mem {l : List Int} {j : Nat} (h : j < l.length) : l.getD j 0 ∈ l := by rw [getD_get h]; exact List.getElem_mem h
theorem mem_getD {l : List Int} {x : Int} (h : x ∈ l) : ∃ j, j < l.length ∧ l.getD j 0 = x := by
  obtain ⟨j, hj, e⟩ := List.getElem_of_mem h
  exact ⟨j, hj, by rw [getD_get hj]; exact e⟩
/-- An implication that linear arithmetic is not to see. -/
structure Box (p : Prop) : Prop where mk :: (out : p)
/-- A Prop as a Bool. -/
noncomputable def B (p : Prop) : Bool := @decide p (Classical.propDecidable p)
theorem B_iff {p : Prop} : B p = true ↔ p := by unfold B; exact @decide_eq_true_iff p (Classical.propDecidable p)
theorem B_true {p : Prop} (h : p) : B p = true := B_iff.2 h
theorem B_false {p : Prop} (h : ¬ p) : B p = false := by
  cases e : B p with
  | false => rfl
  | true => exact absurd (B_iff.1 e) h
theorem B_congr {p q : Prop} (h : p ↔ q) : B p = B q := by
  by_cases hq : q
  · rw [B_true hq, B_true (h.2 hq)]
  · rw [B_false hq, B_false (fun hp => hq (h.1 hp))]
theorem B_dec {p : Prop} [Decidable p] : decide p = B p := by
  by_cases h : p
  · rw [B_true h]; exact decide_eq_true h
  · rw [B_false h]; exact decide_eq_false h
theorem ev_pos {α : Type} {c : Prop} [Decidable c] {f g : Nat → Option α} {r : α} (h : c) (e : Ev f r) : Ev (fun k => if c then f k else g k) r := by simpa only [if_pos h] using e
theorem ev_neg {α : Type} {c : Prop} [Decidable c] {f g : Nat → Option α} {r : α} (h : ¬ c) (e : Ev g r) : Ev (fun k => if c then f k else g k) r := by simpa only [if_neg h] using e
theorem ev_all {α : Type} {f : Option α} {r : α} (h : f = some r) : Ev (fun _ => f) r := ⟨0, fun _ _ => h⟩
/-- Each number is greater than the one before it. -/
def Asc (l : List Int) : Prop := ∀ j, j + 1 < l.length → l.getD j 0 < l.getD (j + 1) 0
theorem mx_abs {a : Int} (h : -1000000 ≤ a) (h' : a ≤ 1000000) : mx a (wrap64 (-a)) = (a.natAbs : Int) := by
  rw [w64 (by omega) (by omega)]
  unfold mx
  split <;> omega
/-- GcdOf's answer. -/
def gcdV (a b : Int) : Int := if (-1000000 ≤ a ∧ a ≤ 1000000) ∧ (-1000000 ≤ b ∧ b ≤ 1000000) then (Nat.gcd a.natAbs b.natAbs : Nat) else 0
def gcdLV (l : List Int) : Int := l.foldl gcdV 0
/-- What a loop over pairs a, b (1 ≤ a ≤ b ≤ n) finds first. -/
def First (viol : Nat → Nat → Prop) (n : Nat) (r : Int × Int × Bool) : Prop :=
  (r = (0, 0, false) ∧ ∀ a b, 1 ≤ a → a ≤ b → b ≤ n → ¬ viol a b) ∨
  ∃ a b : Nat, 1 ≤ a ∧ a ≤ b ∧ b ≤ n ∧ viol a b ∧ r = ((a : Int), (b : Int), true) ∧ ∀ a' b', 1 ≤ a' → a' ≤ b' → b' ≤ n → (a' < a ∨ a' = a ∧ b' < b) → ¬ viol a' b'
theorem First.unique {viol : Nat → Nat → Prop} {n : Nat} {r q : Int × Int × Bool} (h : First viol n r) (h' : First viol n q) : r = q := by
  rcases h with ⟨rfl, h⟩ | ⟨a, b, h1, h2, h3, h4, rfl, h5⟩
  · rcases h' with ⟨rfl, h'⟩ | ⟨a', b', h1', h2', h3', h4', rfl, h5'⟩
    · rfl
    · exact absurd h4' (h a' b' h1' h2' h3')
  · rcases h' with ⟨rfl, h'⟩ | ⟨a', b', h1', h2', h3', h4', rfl, h5'⟩
    · exact absurd h4 (h' a b h1 h2 h3)
    · have x : ¬ (a' < a ∨ a' = a ∧ b' < b) := fun hh => h5 a' b' h1' h2' h3' hh h4'
      have y : ¬ (a < a' ∨ a = a' ∧ b < b') := fun hh => h5' a b h1 h2 h3 hh h4
      have ea : a = a' := by omega
      have eb : b = b' := by omega
      rw [ea, eb]
/-- What clashes in a list of coordinates. -/
def ccViol (l : List Int) (a b : Nat) : Prop := (a + b < l.length + 1 ∧ l.getD (a - 1) 0 + l.getD (b - 1) 0 < l.getD (a + b - 1) 0) ∨ (a + b > l.length + 1 ∧ l.getD (a - 1) 0 + l.getD (b - 1) 0 + 1 < l.getD (a + b - (l.length + 1) - 1) 0)
def CC (l : List Int) (r : Int × Int × Bool) : Prop := (∃ j, j < l.length ∧ ¬ (1 ≤ l.getD j 0 ∧ l.getD j 0 ≤ 200) ∧ (∀ i, i < j → 1 ≤ l.getD i 0 ∧ l.getD i 0 ≤ 200) ∧ r = (((j + 1 : Nat) : Int), 0, true)) ∨ (∀ i, i < l.length → 1 ≤ l.getD i 0 ∧ l.getD i 0 ≤ 200) ∧ First (ccViol l) l.length r
theorem CC.unique {l : List Int} {r q : Int × Int × Bool} (h : CC l r) (h' : CC l q) : r = q := by
  rcases h with ⟨j, h1, h2, h3, rfl⟩ | ⟨h1, h2⟩
  · rcases h' with ⟨j', h1', h2', h3', rfl⟩ | ⟨h1', h2'⟩
    · have x : ¬ j' < j := fun hh => h2' (h3 j' hh)
      have y : ¬ j < j' := fun hh => h2 (h3' j hh)
      have e : j = j' := by omega
      rw [e]
    · exact absurd (h1' j h1) h2
  · rcases h' with ⟨j', h1', h2', h3', rfl⟩ | ⟨h1', h2'⟩
    · exact absurd (h1 j' h1') h2'
    · exact h2.unique h2'
theorem rdOf_nat {α : Type} (d : α) (l : List α) (j : Nat) : rdOf d l (j : Int) = l.getD j d := by simp [rdOf]
theorem getD_set {α : Type} (l : List α) (i j : Nat) (v d : α) : (l.set i v).getD j d = if i = j ∧ j < l.length then v else l.getD j d := by
  simp only [List.getD_eq_getElem?_getD, List.getElem?_set]
  by_cases e : i = j
  · subst e
    by_cases h : i < l.length
    · simp [h]
    · simp [h]
  · simp [e]
/-- What clashes in a list of gaps. -/
def gcViol (l : List Int) (a b : Nat) : Prop := ¬ (a : Int) ∈ l ∧ ¬ (b : Int) ∈ l ∧ ((a + b : Nat) : Int) ∈ l
def GapL (l : List Int) : Prop := Asc l ∧ ∀ x ∈ l, 1 ≤ x ∧ x ≤ 199
def GC (l : List Int) (r : Int × Int × Bool) : Prop := ((¬ GapL l ∨ l = []) ∧ r = (0, 0, false)) ∨ (GapL l ∧ l ≠ [] ∧ First (gcViol l) (l.getD (l.length - 1) 0).toNat r)
theorem GC.unique {l : List Int} {r q : Int × Int × Bool} (h : GC l r) (h' : GC l q) : r = q := by
  rcases h with ⟨h, rfl⟩ | ⟨h1, h2, h3⟩
  · rcases h' with ⟨h', rfl⟩ | ⟨h1', h2', h3'⟩
    · rfl
    · rcases h with h | h
      · exact absurd h1' h
      · exact absurd h h2'
  · rcases h' with ⟨h', rfl⟩ | ⟨h1', h2', h3'⟩
    · rcases h' with h' | h'
      · exact absurd h1 h'
      · exact absurd h' h2
    · exact h3.unique h3'
theorem asc_lt {l : List Int} (h : Asc l) : ∀ (d i : Nat), i + 1 + d < l.length → l.getD i 0 < l.getD (i + 1 + d) 0 := by
  intro d
  induction d with
  | zero => intro i hi; exact h i hi
  | succ d ih =>
    intro i hi
    have a := ih i (by omega)
    have b := h (i + 1 + d) (by omega)
    have e : i + 1 + (d + 1) = i + 1 + d + 1 := by omega
    rw [e]; omega
theorem asc_le_last {l : List Int} (h : Asc l) {x : Int} (hx : x ∈ l) : x ≤ l.getD (l.length - 1) 0 := by
  obtain ⟨j, hj, e⟩ := mem_getD hx
  subst e
  by_cases e2 : j = l.length - 1
  · rw [← e2]; omega
  · have := asc_lt h (l.length - 1 - (j + 1)) j (by omega)
    have e3 : j + 1 + (l.length - 1 - (j + 1)) = l.length - 1 := by omega
    rw [e3] at this; omega
/-- A table of marks: what is marked are the first j numbers. -/
def Marked (T : List Bool) (n : Nat) (P : Int → Prop) : Prop := T.length = n ∧ ∀ i, i < n → (T.getD i false = true ↔ P (i : Int))
theorem Marked.step {T : List Bool} {n : Nat} {P Q : Int → Prop} {x : Int} (h : Marked T n P) (hx : 0 ≤ x) (hx' : x < n) (hq : ∀ y, Q y ↔ P y ∨ y = x) : Marked (T.set x.toNat true) n Q := by
  refine ⟨by simp [h.1], fun i hi => ?_⟩
  rw [getD_set, hq, ← h.2 i hi]
  by_cases e : x.toNat = i
  · rw [if_pos ⟨e, by have := h.1; omega⟩]
    constructor
    · intro _; right; omega
    · intro _; rfl
  · rw [if_neg (fun hh => e hh.1)]
    constructor
    · intro hh; exact .inl hh
    · rintro (hh | hh)
      · exact hh
      · omega
theorem Marked.congr {T : List Bool} {n : Nat} {P Q : Int → Prop} (h : Marked T n P) (hq : ∀ i : Nat, i < n → (P (i : Int) ↔ Q (i : Int))) : Marked T n Q := ⟨h.1, fun i hi => (h.2 i hi).trans (hq i hi)⟩
theorem Marked.init {n : Nat} {P : Int → Prop} (h : ∀ y, ¬ P y) : Marked (List.replicate n false) n P := by
  refine ⟨by simp, fun i hi => ?_⟩
  simp [List.getD_eq_getElem?_getD, List.getElem?_replicate, hi, h]
end Go.Proofs.YtbagfnppeidonaaM
