/- Plain law: mirrored numbers, the n-th element, sums of quotients. -/
import Derived.Test.YtbagfnppeidonaaM4
namespace Go.Proofs.YtbagfnppeidonaaM
open Go.RowKit Go.Proofs.YtbagfnppeidonaaW.PrintWords Go.Proofs.YtbagfnppeidonaaW.PrintLast Go.Proofs.YtbagfnppeidonaaW.PrintMore
set_option linter.unusedVariables false
set_option linter.unusedSimpArgs false
theorem B_eq_iff {p q : Prop} : B p = B q ↔ (p ↔ q) := by
  constructor
  · intro h
    constructor
    · intro hp
      rw [B_true hp] at h
      exact B_iff.1 h.symm
    · intro hq
      rw [B_true hq] at h
      exact B_iff.1 h
  · exact B_congr
/-- From j on, d numbers: each that P does not let off lies in the semigroup just when its mirror does not. -/
noncomputable def mirB (g : List Int) (F : Int) (P : Int → Prop) (d j : Nat) : Bool := B (∀ i : Nat, j ≤ i → i < j + d → ¬ P (i : Int) → (Gen g (i : Int) ↔ ¬ Gen g (F - (i : Int))))
theorem mirB_zero (g : List Int) (F : Int) (P : Int → Prop) (j : Nat) : mirB g F P 0 j = true := B_true (fun i h1 h2 => by omega)
theorem mirB_true {g : List Int} {F : Int} {P : Int → Prop} {d j : Nat} (h : P (j : Int) ∨ (Gen g (j : Int) ↔ ¬ Gen g (F - (j : Int)))) : mirB g F P (d + 1) j = mirB g F P d (j + 1) := by
  unfold mirB
  refine B_congr ⟨fun hh i h1 h2 => hh i (by omega) (by omega), fun hh i h1 h2 h3 => ?_⟩
  by_cases e : i = j
  · subst e
    rcases h with h | h
    · exact absurd h h3
    · exact h
  · exact hh i (by omega) (by omega) h3
theorem mirB_false {g : List Int} {F : Int} {P : Int → Prop} {d j : Nat} (h : ¬ P (j : Int)) (h' : ¬ (Gen g (j : Int) ↔ ¬ Gen g (F - (j : Int)))) : mirB g F P (d + 1) j = false := B_false (fun hh => h' (hh j (by omega) (by omega) h))
theorem mirB_congr {g : List Int} {F : Int} {P Q : Int → Prop} {d j : Nat} (h : ∀ i : Nat, P (i : Int) ↔ Q (i : Int)) : mirB g F P d j = mirB g F Q d j := by
  unfold mirB
  refine B_congr ⟨fun hh i h1 h2 h3 => hh i h1 h2 (fun hp => h3 ((h i).1 hp)), fun hh i h1 h2 h3 => hh i h1 h2 (fun hp => h3 ((h i).2 hp))⟩
noncomputable def symV (g : List Int) : Bool := B (SG g ∧ mirB g (frobV g) (fun _ => False) (frobV g + 1).toNat 0 = true)
noncomputable def psV (g : List Int) : Bool := B (SG g ∧ 0 < frobV g ∧ frobV g % 2 = 0 ∧ mirB g (frobV g) (fun i => 2 * i = frobV g) (frobV g + 1).toNat 0 = true)
theorem frobV_pos {g : List Int} (h : SG g) (h0 : 0 ≤ frobV g) : 1 ≤ frobV g := by
  have hg := frobV_gap h h0
  by_cases e : frobV g = 0
  · rw [e] at hg; exact absurd .zero hg
  · omega
theorem frobV_nosg {g : List Int} (h : 0 ≤ frobV g) : SG g := by
  apply Classical.byContradiction
  intro hc
  rw [frobV_not hc] at h; omega
/-- The n-th element. -/
noncomputable def elemV (g : List Int) (n : Int) : Int := if B (SG g ∧ 0 ≤ n ∧ n ≤ 200) = true then (scanV (gB g) 601 0).getD n.toNat (-1) else -1
theorem elemV_sg {g : List Int} (h : SG g) (n : Nat) (hn : n ≤ 200) : elemV g (n : Int) = (scanV (gB g) 601 0).getD n (-1) := by
  unfold elemV; rw [if_pos (B_true ⟨h, by omega, by omega⟩), Int.toNat_natCast]
theorem elemV_not {g : List Int} {n : Int} (h : ¬ (SG g ∧ 0 ≤ n ∧ n ≤ 200)) : elemV g n = -1 := by
  unfold elemV; rw [if_neg (by rw [B_iff]; exact h)]
theorem getD_of_lt {l : List Int} {j : Nat} (h : j < l.length) (a b : Int) : l.getD j a = l.getD j b := by simp [List.getD_eq_getElem?_getD, h]
theorem small_split {g : List Int} (h : SG g) : ∃ c : Nat, (c : Int) = frobV g + 1 ∧ c ≤ 200 ∧ scanV (gB g) 601 0 = smallV g c ++ scanV (gB g) (601 - c) c ∧ (smallV g c).length ≤ c := by
  have hr := frobV_range g
  refine ⟨(frobV g + 1).toNat, by omega, by omega, ?_, scanV_length _ _ _⟩
  have := scanV_append (gB g) (frobV g + 1).toNat (601 - (frobV g + 1).toNat) 0
  rw [show (frobV g + 1).toNat + (601 - (frobV g + 1).toNat) = 601 by omega, Nat.zero_add] at this
  exact this
theorem elem_low {g : List Int} {c n : Nat} (h2 : scanV (gB g) 601 0 = smallV g c ++ scanV (gB g) (601 - c) c) (hn : n < (smallV g c).length) : (scanV (gB g) 601 0).getD n (-1) = (smallV g c).getD n 0 := by
  rw [h2, List.getD_eq_getElem?_getD, List.getElem?_append_left hn, ← List.getD_eq_getElem?_getD]
  exact getD_of_lt hn _ _
theorem elem_high {g : List Int} (h : SG g) {c n : Nat} (h1 : (c : Int) = frobV g + 1) (h3 : c ≤ 200) (h2 : scanV (gB g) 601 0 = smallV g c ++ scanV (gB g) (601 - c) c) (hn : (smallV g c).length ≤ n) (hn2 : n ≤ 200) : (scanV (gB g) 601 0).getD n (-1) = (c : Int) + n - (smallV g c).length := by
  have hf := scanV_full (P := gB g) (601 - c) c (fun i i1 i2 => gB_iff.2 (frobV_above h (by omega) (by omega)))
  rw [h2, List.getD_eq_getElem?_getD, List.getElem?_append_right hn, ← List.getD_eq_getElem?_getD, getD_of_lt (by rw [hf.1]; omega) (-1) 0, hf.2 _ (by omega)]
  omega
/-- The sum of the quotients from place j on. -/
def quotsV (n : Int) : List Int → Int
  | [] => 0
  | x :: l => x / n + quotsV n l
theorem quotsV_bound {n : Int} (hn : 1 ≤ n) : ∀ l : List Int, (∀ x ∈ l, 0 ≤ x ∧ x < 260) → 0 ≤ quotsV n l ∧ quotsV n l ≤ 260 * l.length := by
  intro l
  induction l with
  | nil => intro _; simp [quotsV]
  | cons x l ih =>
    intro h
    have h1 := h x (List.mem_cons_self ..)
    have h2 := ih (fun y hy => h y (List.mem_cons_of_mem _ hy))
    have h3 : 0 ≤ x / n := Int.ediv_nonneg h1.1 (by omega)
    have h4 : x / n ≤ x := Int.ediv_le_self _ h1.1
    rw [quotsV, List.length_cons]
    omega
def QV (g : List Int) (n v : Int) : Prop := ∃ L, ApV g n L ∧ v = if L.length = 0 then -1 else quotsV n L
theorem QV.unique {g : List Int} {n v v' : Int} (h : QV g n v) (h' : QV g n v') : v = v' := by
  obtain ⟨L, a, rfl⟩ := h
  obtain ⟨L', a', rfl⟩ := h'
  rw [a.unique a']
end Go.Proofs.YtbagfnppeidonaaM
