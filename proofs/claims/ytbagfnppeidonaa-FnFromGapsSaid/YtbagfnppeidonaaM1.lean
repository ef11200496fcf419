/- Plain law of sums of generators: what they reach, least elements of classes, tables. -/
import Derived.Test.YtbagfnppeidonaaM0
namespace Go.Proofs.YtbagfnppeidonaaM
open Go.RowKit Go.Proofs.YtbagfnppeidonaaW.PrintWords Go.Proofs.YtbagfnppeidonaaW.PrintLast Go.Proofs.YtbagfnppeidonaaW.PrintMore
set_option linter.unusedVariables false
set_option linter.unusedSimpArgs false
/-- n is a sum of numbers of g, each any number of times. -/
inductive Gen (g : List Int) : Int → Prop
  | zero : Gen g 0
  | add {n x : Int} : Gen g n → x ∈ g → Gen g (n + x)
theorem Gen.sum {g : List Int} {m n : Int} (h : Gen g m) (h' : Gen g n) : Gen g (m + n) := by
  induction h' with
  | zero => simpa using h
  | add h' hx ih => rw [← Int.add_assoc]; exact ih.add hx
theorem Gen.one {g : List Int} {x : Int} (h : x ∈ g) : Gen g x := by
  have := (Gen.zero (g := g)).add h
  simpa using this
theorem Gen.mono {g g' : List Int} (h : ∀ x ∈ g, Gen g' x) {n : Int} (hn : Gen g n) : Gen g' n := by
  induction hn with
  | zero => exact .zero
  | add _ hx ih => exact ih.sum (h _ hx)
theorem Gen.sub {g g' : List Int} (h : ∀ x ∈ g, x ∈ g') {n : Int} (hn : Gen g n) : Gen g' n := hn.mono fun x hx => .one (h x hx)
theorem Gen.nonneg {g : List Int} (hp : ∀ x ∈ g, 1 ≤ x) {n : Int} (hn : Gen g n) : 0 ≤ n := by
  induction hn with
  | zero => omega
  | add _ hx ih => have := hp _ hx; omega
theorem Gen.inv {g : List Int} {n : Int} (hn : Gen g n) : n = 0 ∨ ∃ x ∈ g, Gen g (n - x) := by
  cases hn with
  | zero => exact .inl rfl
  | @add m x h hx => exact .inr ⟨x, hx, by rw [show m + x - x = m by omega]; exact h⟩
theorem Gen.back {g : List Int} {n x : Int} (hx : x ∈ g) (h : Gen g (n - x)) : Gen g n := by
  have := h.add hx
  rwa [show n - x + x = n by omega] at this
theorem Gen.mul {g : List Int} {x : Int} (hx : Gen g x) (j : Nat) : Gen g (x * (j : Int)) := by
  induction j with
  | zero => simpa using Gen.zero (g := g)
  | succ j ih =>
    have := ih.sum hx
    rw [show x * ((j + 1 : Nat) : Int) = x * (j : Int) + x by rw [Int.natCast_add, Int.mul_add]; simp]
    exact this
theorem Gen.up {g : List Int} {a w n : Int} (ha : a ∈ g) (ha1 : 1 ≤ a) (hw : Gen g w) (hle : w ≤ n) (hm : n % a = w % a) : Gen g n := by
  have hd : (n - w) % a = 0 := by rw [Int.sub_emod, hm, Int.sub_self, Int.zero_emod]
  have e : a * ((n - w) / a) = n - w := Int.mul_ediv_cancel' (Int.dvd_of_emod_eq_zero hd)
  have e0 : 0 ≤ (n - w) / a := Int.ediv_nonneg (by omega) (by omega)
  have := hw.sum ((Gen.one ha).mul ((n - w) / a).toNat)
  rw [Int.toNat_of_nonneg e0, e] at this
  rwa [show w + (n - w) = n by omega] at this
/-- The least sum in a class. -/
def LeastIn (g : List Int) (a r w : Int) : Prop := Gen g w ∧ w % a = r ∧ ∀ m, Gen g m → m % a = r → w ≤ m
theorem LeastIn.unique {g : List Int} {a r w w' : Int} (h : LeastIn g a r w) (h' : LeastIn g a r w') : w = w' := by
  have x := h.2.2 w' h'.1 h'.2.1
  have y := h'.2.2 w h.1 h.2.1
  omega
/-- Least sums, class by class: -1 where there is none. -/
def IsLeasts (g : List Int) (a : Nat) (L : List Int) : Prop :=
  L.length = a ∧ ∀ r, r < a → (L.getD r 0 < 0 → ∀ n, Gen g n → n % (a : Int) ≠ (r : Int)) ∧ (0 ≤ L.getD r 0 → LeastIn g a r (L.getD r 0) ∧ L.getD r 0 ≤ 3540)
/-- A table of sums up to a greatest number. -/
def IsTable (g : List Int) (n : Nat) (T : List Bool) : Prop := Marked T n (Gen g)
theorem IsTable.at {g : List Int} {n : Nat} {T : List Bool} (h : IsTable g n T) (i : Nat) (hi : i < n) : T.getD i false = B (Gen g (i : Int)) := by
  have := h.2 i hi
  cases e : T.getD i false with
  | true => exact (B_true (this.1 e)).symm
  | false => exact (B_false (fun hh => by rw [this.2 hh] at e; cases e)).symm
theorem IsTable.unique {g : List Int} {n : Nat} {T T' : List Bool} (h : IsTable g n T) (h' : IsTable g n T') : T = T' := by
  apply List.ext_getElem (h.1.trans h'.1.symm)
  intro i h1 h2
  have a := h.at i (by have := h.1; omega)
  have b := h'.at i (by have := h.1; omega)
  rw [← b] at a
  simpa [h1, h2] using a
/-! Divisors -/
theorem gcdV_eq {a b : Int} (ha : -1000000 ≤ a ∧ a ≤ 1000000) (hb : -1000000 ≤ b ∧ b ≤ 1000000) : gcdV a b = ((Nat.gcd a.natAbs b.natAbs : Nat) : Int) := by rw [gcdV, if_pos ⟨ha, hb⟩]
theorem gcdV_range {a b : Int} (ha : 0 ≤ a ∧ a ≤ 60) (hb : 1 ≤ b ∧ b ≤ 60) : 1 ≤ gcdV a b ∧ gcdV a b ≤ 60 := by
  rw [gcdV_eq (by omega) (by omega)]
  have h1 := Nat.gcd_le_right a.natAbs (n := b.natAbs) (by omega)
  have h2 := Nat.gcd_pos_of_pos_right a.natAbs (n := b.natAbs) (by omega)
  omega
/-- The classes modulo a that are reached. -/
def Cls (g : List Int) (a : Int) (z : Int) : Prop := ∃ n, Gen g n ∧ n % a = z % a
theorem Cls.add {g : List Int} {a y z : Int} (h : Cls g a y) (h' : Cls g a z) : Cls g a (y + z) := by
  obtain ⟨n, h1, h2⟩ := h
  obtain ⟨m, h3, h4⟩ := h'
  exact ⟨n + m, h1.sum h3, by rw [Int.add_emod, h2, h4, ← Int.add_emod]⟩
theorem Cls.mul {g : List Int} {a y : Int} (h : Cls g a y) (j : Nat) : Cls g a (y * (j : Int)) := by
  obtain ⟨n, h1, h2⟩ := h
  exact ⟨n * j, h1.mul j, by rw [Int.mul_emod, h2, ← Int.mul_emod]⟩
theorem Cls.congr {g : List Int} {a y z : Int} (h : Cls g a y) (e : y % a = z % a) : Cls g a z := by
  obtain ⟨n, h1, h2⟩ := h
  exact ⟨n, h1, h2.trans e⟩
theorem Cls.neg {g : List Int} {a y : Int} (ha : 1 ≤ a) (h : Cls g a y) : Cls g a (-y) := by
  have := h.mul (a - 1).toNat
  refine this.congr ?_
  rw [Int.toNat_of_nonneg (by omega), Int.mul_sub, Int.mul_one, Int.sub_eq_add_neg, Int.mul_comm, Int.add_comm, Int.add_mul_emod_self_left]
theorem Cls.smul {g : List Int} {a y : Int} (ha : 1 ≤ a) (h : Cls g a y) (z : Int) : Cls g a (y * z) := by
  rcases Int.le_total 0 z with hz | hz
  · have := h.mul z.toNat
    rwa [Int.toNat_of_nonneg hz] at this
  · have := (h.neg ha).mul (-z).toNat
    rw [Int.toNat_of_nonneg (by omega)] at this
    rwa [Int.neg_mul_neg] at this
theorem Cls.gcd {g : List Int} {a : Int} (ha : 1 ≤ a) : ∀ (m n : Nat), Cls g a (m : Int) → Cls g a (n : Int) → Cls g a ((Nat.gcd m n : Nat) : Int) := by
  intro m
  induction m using Nat.strongRecOn with
  | _ m ih =>
    intro n hm hn
    by_cases e : m = 0
    · subst e; rwa [Nat.gcd_zero_left]
    · rw [Nat.gcd_rec]
      refine ih (n % m) (Nat.mod_lt _ (by omega)) m ?_ hm
      have := hn.add (hm.smul ha (-((n / m : Nat) : Int)))
      have e2 : ((n % m : Nat) : Int) = (n : Int) + (m : Int) * -((n / m : Nat) : Int) := by
        have := Nat.mod_add_div n m
        have h3 : ((n % m : Nat) : Int) + (m : Int) * ((n / m : Nat) : Int) = (n : Int) := by exact_mod_cast this
        rw [Int.mul_neg]; omega
      rwa [e2]
theorem Cls.gcdL {g : List Int} {a : Int} (ha : 1 ≤ a) : ∀ (l : List Int) (d : Int), (0 ≤ d ∧ d ≤ 60) → (∀ x ∈ l, 1 ≤ x ∧ x ≤ 60) → Cls g a d → (∀ x ∈ l, Cls g a x) → Cls g a (l.foldl gcdV d) := by
  intro l
  induction l with
  | nil => intro d _ _ hd _; exact hd
  | cons x l ih =>
    intro d hd hl hc hx
    have h1 := hl x (by simp)
    have hr := gcdV_range hd h1
    rw [List.foldl_cons]
    refine ih _ ⟨by omega, hr.2⟩ (fun y hy => hl y (by simp [hy])) ?_ (fun y hy => hx y (by simp [hy]))
    rw [gcdV_eq (by omega) (by omega)]
    refine Cls.gcd ha _ _ ?_ ?_
    · rwa [Int.natAbs_of_nonneg hd.1]
    · rw [Int.natAbs_of_nonneg (by omega)]; exact hx x (by simp)
theorem Cls.all {g : List Int} {a : Int} (ha : 1 ≤ a) (hl : ∀ x ∈ g, 1 ≤ x ∧ x ≤ 60) (z : Int) (hz : gcdLV g ∣ z) : Cls g a z := by
  have h := Cls.gcdL (g := g) ha g 0 (by omega) hl ⟨0, .zero, rfl⟩ (fun x hx => ⟨x, .one hx, rfl⟩)
  obtain ⟨w, rfl⟩ := hz
  exact h.smul ha w
end Go.Proofs.YtbagfnppeidonaaM
