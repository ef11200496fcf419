/- Plain law of the search for least sums: what a round keeps, what it makes less, what its end says. -/
import Derived.Test.YtbagfnppeidonaaM1
namespace Go.Proofs.YtbagfnppeidonaaM
open Go.RowKit Go.Proofs.YtbagfnppeidonaaW.PrintWords Go.Proofs.YtbagfnppeidonaaW.PrintLast Go.Proofs.YtbagfnppeidonaaW.PrintMore
set_option linter.unusedVariables false
set_option linter.unusedSimpArgs false
def sumF (f : Int → Int) : List Int → Int
  | [] => 0
  | x :: l => f x + sumF f l
theorem sumF_set (f : Int → Int) : ∀ (l : List Int) (i : Nat) (v : Int), i < l.length → sumF f (l.set i v) = sumF f l - f (l.getD i 0) + f v := by
  intro l
  induction l with
  | nil => intro i v h; simp at h
  | cons x l ih =>
    intro i v h
    cases i with
    | zero => simp [sumF]; omega
    | succ i =>
      have := ih i v (by simpa using h)
      simp only [List.set_cons_succ, sumF, List.getD_cons_succ, this]; omega
theorem sumF_le (f : Int → Int) (h : ∀ x, f x ≤ 1) : ∀ l : List Int, sumF f l ≤ l.length := by
  intro l
  induction l with
  | nil => simp [sumF]
  | cons x l ih => have := h x; simp only [sumF, List.length_cons]; omega
theorem sumF_nonneg (f : Int → Int) (h : ∀ x, 0 ≤ f x) : ∀ l : List Int, 0 ≤ sumF f l := by
  intro l
  induction l with
  | nil => simp [sumF]
  | cons x l ih => have := h x; simp only [sumF]; omega
theorem sumF_replicate (f : Int → Int) (v : Int) : ∀ n : Nat, sumF f (List.replicate n v) = n * f v := by
  intro n
  induction n with
  | zero => simp [sumF]
  | succ n ih => rw [List.replicate_succ, sumF, ih, Int.natCast_succ, Int.add_mul]; omega
def one0 (v : Int) : Int := if 0 ≤ v then 1 else 0
def cost0 (v : Int) : Int := if v < 0 then 4000 else v
def cntL (l : List Int) : Int := sumF one0 l
def costL (l : List Int) : Int := sumF cost0 l
theorem cost0_nonneg (v : Int) : 0 ≤ cost0 v := by unfold cost0; split <;> omega
theorem costL_nonneg (l : List Int) : 0 ≤ costL l := sumF_nonneg _ cost0_nonneg l
theorem cntL_le (l : List Int) : cntL l ≤ l.length := sumF_le _ (fun x => by unfold one0; split <;> omega) l
/-- What the search keeps. -/
def LInv (g : List Int) (a : Nat) (L : List Int) : Prop :=
  L.length = a ∧ L.getD 0 0 = 0 ∧ ∀ r, r < a → 0 ≤ L.getD r 0 → Gen g (L.getD r 0) ∧ L.getD r 0 % (a : Int) = (r : Int) ∧ L.getD r 0 ≤ 60 * (cntL L - 1)
/-- From class r on no number leads to a lesser sum. -/
def RelaxedAt (a : Nat) (L : List Int) (r : Nat) (x : Int) : Prop := 0 ≤ L.getD (((r : Int) + x) % (a : Int)).toNat 0 ∧ L.getD (((r : Int) + x) % (a : Int)).toNat 0 ≤ L.getD r 0 + x
def Relaxed (g : List Int) (a : Nat) (L : List Int) (r : Nat) : Prop := 0 ≤ L.getD r 0 → ∀ x ∈ g, RelaxedAt a L r x
def RelaxedTo (g : List Int) (a : Nat) (L : List Int) (r : Nat) (j : Nat) : Prop := ∀ x ∈ g.take j, RelaxedAt a L r x
theorem LInv.bound {g : List Int} {a : Nat} {L : List Int} (h : LInv g a L) (ha : a ≤ 60) {r : Nat} (hr : r < a) : L.getD r 0 ≤ 3540 := by
  by_cases h0 : 0 ≤ L.getD r 0
  · have h1 := (h.2.2 r hr h0).2.2
    have h2 := cntL_le L
    rw [h.1] at h2
    omega
  · omega
/-- A lesser sum is noted down. -/
theorem LInv.step {g : List Int} {a : Nat} {L : List Int} (h : LInv g a L) (ha : 1 ≤ a) (ha' : a ≤ 60) {r : Nat} (hr : r < a) (h0 : 0 ≤ L.getD r 0) {x : Int} (hx : x ∈ g) (hx1 : 1 ≤ x) (hx2 : x ≤ 60)
    {t : Nat} (ht : ((r : Int) + x) % (a : Int) = (t : Int)) (hl : L.getD t 0 < 0 ∨ L.getD r 0 + x < L.getD t 0) :
    LInv g a (L.set t (L.getD r 0 + x)) ∧ costL (L.set t (L.getD r 0 + x)) < costL L ∧ t < a ∧ t ≠ r := by
  have hta : t < a := by
    have := Int.emod_lt_of_pos ((r : Int) + x) (show (0 : Int) < (a : Int) by omega)
    omega
  have hne : t ≠ r := by
    intro e
    subst e
    rcases hl with hl | hl <;> omega
  have hb := h.bound ha' hr
  have hL := h.1
  obtain ⟨g1, g2, g3⟩ := h.2.2 r hr h0
  have hc : cntL (L.set t (L.getD r 0 + x)) = cntL L - one0 (L.getD t 0) + 1 := by
    unfold cntL
    rw [sumF_set _ _ _ _ (by omega)]
    unfold one0
    rw [if_pos (show 0 ≤ L.getD r 0 + x by omega)]
  have hk : costL (L.set t (L.getD r 0 + x)) = costL L - cost0 (L.getD t 0) + (L.getD r 0 + x) := by
    unfold costL
    rw [sumF_set _ _ _ _ (by omega)]
    unfold cost0
    rw [if_neg (show ¬ L.getD r 0 + x < 0 by omega)]
  have ho : one0 (L.getD t 0) = 1 ∨ (one0 (L.getD t 0) = 0 ∧ L.getD t 0 < 0) := by
    unfold one0
    split
    · exact .inl rfl
    · exact .inr ⟨rfl, by omega⟩
  have t0 : L.getD t 0 ≠ 0 ∨ t ≠ 0 := by
    by_cases e : t = 0
    · subst e
      left
      rcases hl with hl | hl <;> omega
    · exact .inr e
  refine ⟨⟨by simp [hL], ?_, ?_⟩, ?_, hta, hne⟩
  · rw [getD_set]
    by_cases e : t = 0
    · subst e
      have := h.2.1
      rcases t0 with t0 | t0 <;> omega
    · rw [if_neg (fun hh => e hh.1)]; exact h.2.1
  · intro q hq hq0
    rw [getD_set] at hq0 ⊢
    by_cases e : t = q ∧ q < L.length
    · rw [if_pos e] at hq0 ⊢
      obtain ⟨e, _⟩ := e
      subst e
      refine ⟨g1.add hx, ?_, ?_⟩
      · rw [← ht, Int.add_emod, g2, ← Int.add_emod_emod]
        rw [Int.add_emod_emod]
        rw [Int.add_emod (r : Int) x]
        rw [Int.emod_eq_of_lt (show (0 : Int) ≤ (r : Int) by omega) (by omega)]
      · rw [hc]
        rcases ho with ho | ⟨ho, hneg⟩
        · rw [ho]
          rcases hl with hl | hl
          · unfold one0 at ho; rw [if_neg (by omega)] at ho; omega
          · have := h.2.2 t hta (by omega)
            omega
        · rw [ho]; omega
    · rw [if_neg e] at hq0 ⊢
      obtain ⟨q1, q2, q3⟩ := h.2.2 q hq hq0
      refine ⟨q1, q2, ?_⟩
      rw [hc]
      rcases ho with ho | ⟨ho, _⟩ <;> rw [ho] <;> omega
  · rw [hk]
    unfold cost0
    split
    · omega
    · rcases hl with hl | hl <;> omega
/-- What stands when a whole round has changed nothing. -/
def LGood (g : List Int) (a : Nat) (L : List Int) : Prop := LInv g a L ∧ ∀ r, r < a → Relaxed g a L r
theorem LGood.isLeasts {g : List Int} {a : Nat} {L : List Int} (h : LGood g a L) (ha : 1 ≤ a) (ha' : a ≤ 60) (hg : ∀ x ∈ g, 1 ≤ x ∧ x ≤ 60) : IsLeasts g a L := by
  have key : ∀ n, Gen g n → 0 ≤ L.getD (n % (a : Int)).toNat 0 ∧ L.getD (n % (a : Int)).toNat 0 ≤ n := by
    intro n hn
    induction hn with
    | zero => simp only [Int.zero_emod, Int.toNat_zero]; have := h.1.2.1; omega
    | @add m x hm hx ih =>
      have hr : (m % (a : Int)).toNat < a := by
        have := Int.emod_lt_of_pos m (show (0 : Int) < (a : Int) by omega)
        have := Int.emod_nonneg m (show (a : Int) ≠ 0 by omega)
        omega
      have := h.2 _ hr ih.1 x hx
      unfold RelaxedAt at this
      have e : (((m % (a : Int)).toNat : Nat) : Int) = m % (a : Int) := Int.toNat_of_nonneg (Int.emod_nonneg m (by omega))
      rw [e, Int.emod_add_emod] at this
      omega
  refine ⟨h.1.1, fun r hr => ⟨fun hneg n hn e => ?_, fun hnn => ?_⟩⟩
  · have := key n hn
    rw [e, Int.toNat_natCast] at this
    omega
  · obtain ⟨g1, g2, g3⟩ := h.1.2.2 r hr hnn
    refine ⟨⟨g1, g2, fun m hm e => ?_⟩, h.1.bound ha' hr⟩
    have := key m hm
    rw [e, Int.toNat_natCast] at this
    omega
theorem LInv.init {g : List Int} {a : Nat} (ha : 1 ≤ a) : LInv g a ((List.replicate a (-1 : Int)).set 0 0) := by
  have hl : (List.replicate a (-1 : Int)).length = a := by simp
  refine ⟨by simp, by rw [getD_set, if_pos ⟨rfl, by omega⟩], fun r hr h0 => ?_⟩
  rw [getD_set] at h0 ⊢
  by_cases e : 0 = r ∧ r < (List.replicate a (-1 : Int)).length
  · rw [if_pos e]
    obtain ⟨e, _⟩ := e
    subst e
    refine ⟨.zero, by simp, ?_⟩
    unfold cntL
    rw [sumF_set _ _ _ _ (by omega), sumF_replicate]
    simp [List.getD_eq_getElem?_getD, one0, List.getElem?_replicate, show 0 < a by omega]
  · rw [if_neg e] at h0
    simp [List.getD_eq_getElem?_getD, List.getElem?_replicate, hr] at h0
/-- Where there is a table of least sums, it tells what is a sum. -/
theorem IsLeasts.gen {g : List Int} {a : Nat} {L : List Int} (h : IsLeasts g a L) (hag : (a : Int) ∈ g) (ha : 1 ≤ a) (n : Int) : Gen g n ↔ 0 ≤ L.getD (n % (a : Int)).toNat 0 ∧ L.getD (n % (a : Int)).toNat 0 ≤ n := by
  have e0 := Int.emod_nonneg n (show (a : Int) ≠ 0 by omega)
  have hr : (n % (a : Int)).toNat < a := by
    have := Int.emod_lt_of_pos n (show (0 : Int) < (a : Int) by omega)
    omega
  have e : (((n % (a : Int)).toNat : Nat) : Int) = n % (a : Int) := Int.toNat_of_nonneg e0
  obtain ⟨h1, h2⟩ := h.2 _ hr
  constructor
  · intro hn
    have h0 : 0 ≤ L.getD (n % (a : Int)).toNat 0 := by
      apply Classical.byContradiction
      intro hc
      exact h1 (by omega) n hn (by rw [e])
    have := (h2 h0).1
    rw [e] at this
    exact ⟨h0, this.2.2 n hn rfl⟩
  · rintro ⟨h0, hle⟩
    have := (h2 h0).1
    rw [e] at this
    exact Gen.up hag (by omega) this.1 hle this.2.1.symm
end Go.Proofs.YtbagfnppeidonaaM
