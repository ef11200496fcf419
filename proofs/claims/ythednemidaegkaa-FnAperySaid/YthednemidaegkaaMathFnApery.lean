/- Plain laws of lists and numbers: what the law FnApery wants. -/
import Derived.Test.YthednemidaegkaaVMore
import Derived.Lib.SlicesCompact
namespace Go.Proofs.YthednemidaegkaaM
open Go.RowKit Go.Proofs.YthednemidaegkaaW.PrintWords Go.Proofs.YthednemidaegkaaW.PrintLast Go.Proofs.YthednemidaegkaaW.PrintMore
set_option linter.unusedVariables false
set_option linter.unusedSimpArgs false

theorem w64 {n : Int} (h : -9223372036854775808 ≤ n) (h' : n ≤ 9223372036854775807) : wrap64 n = n := by
  unfold wrap64
  omega
theorem wadd1 {j : Nat} (h : j < 4611686018427387904) : wrap64 ((j : Int) + 1) = ((j + 1 : Nat) : Int) := by
  rw [w64 (by omega) (by omega)]
  omega
theorem wsub1 {a : Nat} (h : 1 ≤ a) (h' : a < 4611686018427387904) : wrap64 ((a : Int) - 1) = ((a - 1 : Nat) : Int) := by
  rw [w64 (by omega) (by omega)]
  omega
theorem waddn {a b : Nat} (h : a < 4611686018427387904) (h' : b < 4611686018427387904) : wrap64 ((a : Int) + (b : Int)) = ((a + b : Nat) : Int) := by
  rw [w64 (by omega) (by omega)]
  omega
theorem rd_nat (l : List Int) (j : Nat) : rd l (j : Int) = l.getD j 0 := by simp [rd]
theorem getD_get {l : List Int} {j : Nat} (h : j < l.length) : l.getD j 0 = l[j] := by simp [h]
theorem getD_mem {l : List Int} {j : Nat} (h : j < l.length) : l.getD j 0 ∈ l := by rw [getD_get h]; exact List.getElem_mem h
theorem mem_getD {l : List Int} {x : Int} (h : x ∈ l) : ∃ j, j < l.length ∧ l.getD j 0 = x := by
  obtain ⟨j, hj, e⟩ := List.getElem_of_mem h
  exact ⟨j, hj, by rw [getD_get hj]; exact e⟩
/-- An implication that linear arithmetic is not to see. -/
structure Box (p : Prop) : Prop where mk :: (out : p)
/-- A Prop as a Bool. -/
noncomputable def B (p : Prop) : Bool := @decide p (Classical.propDecidable p)
theorem B_iff {p : Prop} : B p = true ↔ p := by unfold B; exact @decide_eq_true_iff p (Classical.propDecidable p)
theorem B_true {p : Prop} (h : p) : B p = true := B_iff.2 h
theorem B_false {p : Prop} (h : ¬ p) : B p = false := by
  cases e : B p with
  | false => rfl
  | true => exact absurd (B_iff.1 e) h
theorem B_congr {p q : Prop} (h : p ↔ q) : B p = B q := by
  by_cases hq : q
  · rw [B_true hq, B_true (h.2 hq)]
  · rw [B_false hq, B_false (fun hp => hq (h.1 hp))]
theorem B_dec {p : Prop} [Decidable p] : decide p = B p := by
  by_cases h : p
  · rw [B_true h]; exact decide_eq_true h
  · rw [B_false h]; exact decide_eq_false h
theorem ev_pos {α : Type} {c : Prop} [Decidable c] {f g : Nat → Option α} {r : α} (h : c) (e : Ev f r) : Ev (fun k => if c then f k else g k) r := by simpa only [if_pos h] using e
theorem ev_neg {α : Type} {c : Prop} [Decidable c] {f g : Nat → Option α} {r : α} (h : ¬ c) (e : Ev g r) : Ev (fun k => if c then f k else g k) r := by simpa only [if_neg h] using e
/-- Each number is greater than the one before it. -/
def Asc (l : List Int) : Prop := ∀ j, j + 1 < l.length → l.getD j 0 < l.getD (j + 1) 0
theorem mx_abs {a : Int} (h : -1000000 ≤ a) (h' : a ≤ 1000000) : mx a (wrap64 (-a)) = (a.natAbs : Int) := by
  rw [w64 (by omega) (by omega)]
  unfold mx
  split <;> omega
/-- GcdOf's answer. -/
def gcdV (a b : Int) : Int := if (-1000000 ≤ a ∧ a ≤ 1000000) ∧ (-1000000 ≤ b ∧ b ≤ 1000000) then (Nat.gcd a.natAbs b.natAbs : Nat) else 0
def gcdLV (l : List Int) : Int := l.foldl gcdV 0
/-- What a loop over pairs a, b (1 ≤ a ≤ b ≤ n) finds first. -/
def First (viol : Nat → Nat → Prop) (n : Nat) (r : Int × Int × Bool) : Prop :=
  (r = (0, 0, false) ∧ ∀ a b, 1 ≤ a → a ≤ b → b ≤ n → ¬ viol a b) ∨
  ∃ a b : Nat, 1 ≤ a ∧ a ≤ b ∧ b ≤ n ∧ viol a b ∧ r = ((a : Int), (b : Int), true) ∧ ∀ a' b', 1 ≤ a' → a' ≤ b' → b' ≤ n → (a' < a ∨ a' = a ∧ b' < b) → ¬ viol a' b'
theorem First.unique {viol : Nat → Nat → Prop} {n : Nat} {r q : Int × Int × Bool} (h : First viol n r) (h' : First viol n q) : r = q := by
  rcases h with ⟨rfl, h⟩ | ⟨a, b, h1, h2, h3, h4, rfl, h5⟩
  · rcases h' with ⟨rfl, h'⟩ | ⟨a', b', h1', h2', h3', h4', rfl, h5'⟩
    · rfl
    · exact absurd h4' (h a' b' h1' h2' h3')
  · rcases h' with ⟨rfl, h'⟩ | ⟨a', b', h1', h2', h3', h4', rfl, h5'⟩
    · exact absurd h4 (h' a b h1 h2 h3)
    · have x : ¬ (a' < a ∨ a' = a ∧ b' < b) := fun hh => h5 a' b' h1' h2' h3' hh h4'
      have y : ¬ (a < a' ∨ a = a' ∧ b < b') := fun hh => h5' a b h1 h2 h3 hh h4
      have ea : a = a' := by omega
      have eb : b = b' := by omega
      rw [ea, eb]
/-- What clashes in a list of coordinates. -/
def ccViol (l : List Int) (a b : Nat) : Prop := (a + b < l.length + 1 ∧ l.getD (a - 1) 0 + l.getD (b - 1) 0 < l.getD (a + b - 1) 0) ∨ (a + b > l.length + 1 ∧ l.getD (a - 1) 0 + l.getD (b - 1) 0 + 1 < l.getD (a + b - (l.length + 1) - 1) 0)
def CC (l : List Int) (r : Int × Int × Bool) : Prop := (∃ j, j < l.length ∧ ¬ (1 ≤ l.getD j 0 ∧ l.getD j 0 ≤ 200) ∧ (∀ i, i < j → 1 ≤ l.getD i 0 ∧ l.getD i 0 ≤ 200) ∧ r = (((j + 1 : Nat) : Int), 0, true)) ∨ (∀ i, i < l.length → 1 ≤ l.getD i 0 ∧ l.getD i 0 ≤ 200) ∧ First (ccViol l) l.length r
theorem CC.unique {l : List Int} {r q : Int × Int × Bool} (h : CC l r) (h' : CC l q) : r = q := by
  rcases h with ⟨j, h1, h2, h3, rfl⟩ | ⟨h1, h2⟩
  · rcases h' with ⟨j', h1', h2', h3', rfl⟩ | ⟨h1', h2'⟩
    · have x : ¬ j' < j := fun hh => h2' (h3 j' hh)
      have y : ¬ j < j' := fun hh => h2 (h3' j hh)
      have e : j = j' := by omega
      rw [e]
    · exact absurd (h1' j h1) h2
  · rcases h' with ⟨j', h1', h2', h3', rfl⟩ | ⟨h1', h2'⟩
    · exact absurd (h1 j' h1') h2'
    · exact h2.unique h2'
theorem rdOf_nat {α : Type} (d : α) (l : List α) (j : Nat) : rdOf d l (j : Int) = l.getD j d := by simp [rdOf]
theorem getD_set {α : Type} (l : List α) (i j : Nat) (v d : α) : (l.set i v).getD j d = if i = j ∧ j < l.length then v else l.getD j d := by
  simp only [List.getD_eq_getElem?_getD, List.getElem?_set]
  by_cases e : i = j
  · subst e
    by_cases h : i < l.length
    · simp [h]
    · simp [h]
  · simp [e]
/-- What clashes in a list of gaps. -/
def gcViol (l : List Int) (a b : Nat) : Prop := ¬ (a : Int) ∈ l ∧ ¬ (b : Int) ∈ l ∧ ((a + b : Nat) : Int) ∈ l
def GapL (l : List Int) : Prop := Asc l ∧ ∀ x ∈ l, 1 ≤ x ∧ x ≤ 199
def GC (l : List Int) (r : Int × Int × Bool) : Prop := ((¬ GapL l ∨ l = []) ∧ r = (0, 0, false)) ∨ (GapL l ∧ l ≠ [] ∧ First (gcViol l) (l.getD (l.length - 1) 0).toNat r)
theorem GC.unique {l : List Int} {r q : Int × Int × Bool} (h : GC l r) (h' : GC l q) : r = q := by
  rcases h with ⟨h, rfl⟩ | ⟨h1, h2, h3⟩
  · rcases h' with ⟨h', rfl⟩ | ⟨h1', h2', h3'⟩
    · rfl
    · rcases h with h | h
      · exact absurd h1' h
      · exact absurd h h2'
  · rcases h' with ⟨h', rfl⟩ | ⟨h1', h2', h3'⟩
    · rcases h' with h' | h'
      · exact absurd h1 h'
      · exact absurd h' h2
    · exact h3.unique h3'
theorem asc_lt {l : List Int} (h : Asc l) : ∀ (d i : Nat), i + 1 + d < l.length → l.getD i 0 < l.getD (i + 1 + d) 0 := by
  intro d
  induction d with
  | zero => intro i hi; exact h i hi
  | succ d ih =>
    intro i hi
    have a := ih i (by omega)
    have b := h (i + 1 + d) (by omega)
    have e : i + 1 + (d + 1) = i + 1 + d + 1 := by omega
    rw [e]; omega
theorem asc_le_last {l : List Int} (h : Asc l) {x : Int} (hx : x ∈ l) : x ≤ l.getD (l.length - 1) 0 := by
  obtain ⟨j, hj, e⟩ := mem_getD hx
  subst e
  by_cases e2 : j = l.length - 1
  · rw [← e2]; omega
  · have := asc_lt h (l.length - 1 - (j + 1)) j (by omega)
    have e3 : j + 1 + (l.length - 1 - (j + 1)) = l.length - 1 := by omega
    rw [e3] at this; omega
/-- A table of marks: what is marked are the first j numbers. -/
def Marked (T : List Bool) (n : Nat) (P : Int → Prop) : Prop := T.length = n ∧ ∀ i, i < n → (T.getD i false = true ↔ P (i : Int))
theorem Marked.step {T : List Bool} {n : Nat} {P Q : Int → Prop} {x : Int} (h : Marked T n P) (hx : 0 ≤ x) (hx' : x < n) (hq : ∀ y, Q y ↔ P y ∨ y = x) : Marked (T.set x.toNat true) n Q := by
  refine ⟨by simp [h.1], fun i hi => ?_⟩
  rw [getD_set, hq, ← h.2 i hi]
  by_cases e : x.toNat = i
  · rw [if_pos ⟨e, by have := h.1; omega⟩]
    constructor
    · intro _; right; omega
    · intro _; rfl
  · rw [if_neg (fun hh => e hh.1)]
    constructor
    · intro hh; exact .inl hh
    · rintro (hh | hh)
      · exact hh
      · omega
theorem Marked.congr {T : List Bool} {n : Nat} {P Q : Int → Prop} (h : Marked T n P) (hq : ∀ i : Nat, i < n → (P (i : Int) ↔ Q (i : Int))) : Marked T n Q := ⟨h.1, fun i hi => (h.2 i hi).trans (hq i hi)⟩
theorem Marked.init {n : Nat} {P : Int → Prop} (h : ∀ y, ¬ P y) : Marked (List.replicate n false) n P := by
  refine ⟨by simp, fun i hi => ?_⟩
  simp [List.getD_eq_getElem?_getD, List.getElem?_replicate, hi, h]
/-- n is a sum of numbers of g, each any number of times. -/
inductive Gen (g : List Int) : Int → Prop
  | zero : Gen g 0
  | add {n x : Int} : Gen g n → x ∈ g → Gen g (n + x)
theorem Gen.sum {g : List Int} {m n : Int} (h : Gen g m) (h' : Gen g n) : Gen g (m + n) := by
  induction h' with
  | zero => simpa using h
  | add h' hx ih => rw [← Int.add_assoc]; exact ih.add hx
theorem Gen.one {g : List Int} {x : Int} (h : x ∈ g) : Gen g x := by
  have := (Gen.zero (g := g)).add h
  simpa using this
theorem Gen.mono {g g' : List Int} (h : ∀ x ∈ g, Gen g' x) {n : Int} (hn : Gen g n) : Gen g' n := by
  induction hn with
  | zero => exact .zero
  | add _ hx ih => exact ih.sum (h _ hx)
theorem Gen.sub {g g' : List Int} (h : ∀ x ∈ g, x ∈ g') {n : Int} (hn : Gen g n) : Gen g' n := hn.mono fun x hx => .one (h x hx)
theorem Gen.nonneg {g : List Int} (hp : ∀ x ∈ g, 1 ≤ x) {n : Int} (hn : Gen g n) : 0 ≤ n := by
  induction hn with
  | zero => omega
  | add _ hx ih => have := hp _ hx; omega
theorem Gen.inv {g : List Int} {n : Int} (hn : Gen g n) : n = 0 ∨ ∃ x ∈ g, Gen g (n - x) := by
  cases hn with
  | zero => exact .inl rfl
  | @add m x h hx => exact .inr ⟨x, hx, by rw [show m + x - x = m by omega]; exact h⟩
theorem Gen.back {g : List Int} {n x : Int} (hx : x ∈ g) (h : Gen g (n - x)) : Gen g n := by
  have := h.add hx
  rwa [show n - x + x = n by omega] at this
theorem Gen.mul {g : List Int} {x : Int} (hx : Gen g x) (j : Nat) : Gen g (x * (j : Int)) := by
  induction j with
  | zero => simpa using Gen.zero (g := g)
  | succ j ih =>
    have := ih.sum hx
    rw [show x * ((j + 1 : Nat) : Int) = x * (j : Int) + x by rw [Int.natCast_add, Int.mul_add]; simp]
    exact this
theorem Gen.up {g : List Int} {a w n : Int} (ha : a ∈ g) (ha1 : 1 ≤ a) (hw : Gen g w) (hle : w ≤ n) (hm : n % a = w % a) : Gen g n := by
  have hd : (n - w) % a = 0 := by rw [Int.sub_emod, hm, Int.sub_self, Int.zero_emod]
  have e : a * ((n - w) / a) = n - w := Int.mul_ediv_cancel' (Int.dvd_of_emod_eq_zero hd)
  have e0 : 0 ≤ (n - w) / a := Int.ediv_nonneg (by omega) (by omega)
  have := hw.sum ((Gen.one ha).mul ((n - w) / a).toNat)
  rw [Int.toNat_of_nonneg e0, e] at this
  rwa [show w + (n - w) = n by omega] at this
/-- The least sum in a class. -/
def LeastIn (g : List Int) (a r w : Int) : Prop := Gen g w ∧ w % a = r ∧ ∀ m, Gen g m → m % a = r → w ≤ m
theorem LeastIn.unique {g : List Int} {a r w w' : Int} (h : LeastIn g a r w) (h' : LeastIn g a r w') : w = w' := by
  have x := h.2.2 w' h'.1 h'.2.1
  have y := h'.2.2 w h.1 h.2.1
  omega
/-- Least sums, class by class: -1 where there is none. -/
def IsLeasts (g : List Int) (a : Nat) (L : List Int) : Prop :=
  L.length = a ∧ ∀ r, r < a → (L.getD r 0 < 0 → ∀ n, Gen g n → n % (a : Int) ≠ (r : Int)) ∧ (0 ≤ L.getD r 0 → LeastIn g a r (L.getD r 0) ∧ L.getD r 0 ≤ 3540)
/-- A table of sums up to a greatest number. -/
def IsTable (g : List Int) (n : Nat) (T : List Bool) : Prop := Marked T n (Gen g)
theorem IsTable.at {g : List Int} {n : Nat} {T : List Bool} (h : IsTable g n T) (i : Nat) (hi : i < n) : T.getD i false = B (Gen g (i : Int)) := by
  have := h.2 i hi
  cases e : T.getD i false with
  | true => exact (B_true (this.1 e)).symm
  | false => exact (B_false (fun hh => by rw [this.2 hh] at e; cases e)).symm
theorem IsTable.unique {g : List Int} {n : Nat} {T T' : List Bool} (h : IsTable g n T) (h' : IsTable g n T') : T = T' := by
  apply List.ext_getElem (h.1.trans h'.1.symm)
  intro i h1 h2
  have a := h.at i (by have := h.1; omega)
  have b := h'.at i (by have := h.1; omega)
  rw [← b] at a
  simpa [h1, h2] using a
/-! Divisors -/
theorem gcdV_eq {a b : Int} (ha : -1000000 ≤ a ∧ a ≤ 1000000) (hb : -1000000 ≤ b ∧ b ≤ 1000000) : gcdV a b = ((Nat.gcd a.natAbs b.natAbs : Nat) : Int) := by rw [gcdV, if_pos ⟨ha, hb⟩]
theorem gcdV_range {a b : Int} (ha : 0 ≤ a ∧ a ≤ 60) (hb : 1 ≤ b ∧ b ≤ 60) : 1 ≤ gcdV a b ∧ gcdV a b ≤ 60 := by
  rw [gcdV_eq (by omega) (by omega)]
  have h1 := Nat.gcd_le_right a.natAbs (n := b.natAbs) (by omega)
  have h2 := Nat.gcd_pos_of_pos_right a.natAbs (n := b.natAbs) (by omega)
  omega
/-- The classes modulo a that are reached. -/
def Cls (g : List Int) (a : Int) (z : Int) : Prop := ∃ n, Gen g n ∧ n % a = z % a
theorem Cls.add {g : List Int} {a y z : Int} (h : Cls g a y) (h' : Cls g a z) : Cls g a (y + z) := by
  obtain ⟨n, h1, h2⟩ := h
  obtain ⟨m, h3, h4⟩ := h'
  exact ⟨n + m, h1.sum h3, by rw [Int.add_emod, h2, h4, ← Int.add_emod]⟩
theorem Cls.mul {g : List Int} {a y : Int} (h : Cls g a y) (j : Nat) : Cls g a (y * (j : Int)) := by
  obtain ⟨n, h1, h2⟩ := h
  exact ⟨n * j, h1.mul j, by rw [Int.mul_emod, h2, ← Int.mul_emod]⟩
theorem Cls.congr {g : List Int} {a y z : Int} (h : Cls g a y) (e : y % a = z % a) : Cls g a z := by
  obtain ⟨n, h1, h2⟩ := h
  exact ⟨n, h1, h2.trans e⟩
theorem Cls.neg {g : List Int} {a y : Int} (ha : 1 ≤ a) (h : Cls g a y) : Cls g a (-y) := by
  have := h.mul (a - 1).toNat
  refine this.congr ?_
  rw [Int.toNat_of_nonneg (by omega), Int.mul_sub, Int.mul_one, Int.sub_eq_add_neg, Int.mul_comm, Int.add_comm, Int.add_mul_emod_self_left]
theorem Cls.smul {g : List Int} {a y : Int} (ha : 1 ≤ a) (h : Cls g a y) (z : Int) : Cls g a (y * z) := by
  rcases Int.le_total 0 z with hz | hz
  · have := h.mul z.toNat
    rwa [Int.toNat_of_nonneg hz] at this
  · have := (h.neg ha).mul (-z).toNat
    rw [Int.toNat_of_nonneg (by omega)] at this
    rwa [Int.neg_mul_neg] at this
theorem Cls.gcd {g : List Int} {a : Int} (ha : 1 ≤ a) : ∀ (m n : Nat), Cls g a (m : Int) → Cls g a (n : Int) → Cls g a ((Nat.gcd m n : Nat) : Int) := by
  intro m
  induction m using Nat.strongRecOn with
  | _ m ih =>
    intro n hm hn
    by_cases e : m = 0
    · subst e; rwa [Nat.gcd_zero_left]
    · rw [Nat.gcd_rec]
      refine ih (n % m) (Nat.mod_lt _ (by omega)) m ?_ hm
      have := hn.add (hm.smul ha (-((n / m : Nat) : Int)))
      have e2 : ((n % m : Nat) : Int) = (n : Int) + (m : Int) * -((n / m : Nat) : Int) := by
        have := Nat.mod_add_div n m
        have h3 : ((n % m : Nat) : Int) + (m : Int) * ((n / m : Nat) : Int) = (n : Int) := by exact_mod_cast this
        rw [Int.mul_neg]; omega
      rwa [e2]
theorem Cls.gcdL {g : List Int} {a : Int} (ha : 1 ≤ a) : ∀ (l : List Int) (d : Int), (0 ≤ d ∧ d ≤ 60) → (∀ x ∈ l, 1 ≤ x ∧ x ≤ 60) → Cls g a d → (∀ x ∈ l, Cls g a x) → Cls g a (l.foldl gcdV d) := by
  intro l
  induction l with
  | nil => intro d _ _ hd _; exact hd
  | cons x l ih =>
    intro d hd hl hc hx
    have h1 := hl x (by simp)
    have hr := gcdV_range hd h1
    rw [List.foldl_cons]
    refine ih _ ⟨by omega, hr.2⟩ (fun y hy => hl y (by simp [hy])) ?_ (fun y hy => hx y (by simp [hy]))
    rw [gcdV_eq (by omega) (by omega)]
    refine Cls.gcd ha _ _ ?_ ?_
    · rwa [Int.natAbs_of_nonneg hd.1]
    · rw [Int.natAbs_of_nonneg (by omega)]; exact hx x (by simp)
theorem Cls.all {g : List Int} {a : Int} (ha : 1 ≤ a) (hl : ∀ x ∈ g, 1 ≤ x ∧ x ≤ 60) (z : Int) (hz : gcdLV g ∣ z) : Cls g a z := by
  have h := Cls.gcdL (g := g) ha g 0 (by omega) hl ⟨0, .zero, rfl⟩ (fun x hx => ⟨x, .one hx, rfl⟩)
  obtain ⟨w, rfl⟩ := hz
  exact h.smul ha w
def sumF (f : Int → Int) : List Int → Int
  | [] => 0
  | x :: l => f x + sumF f l
theorem sumF_set (f : Int → Int) : ∀ (l : List Int) (i : Nat) (v : Int), i < l.length → sumF f (l.set i v) = sumF f l - f (l.getD i 0) + f v := by
  intro l
  induction l with
  | nil => intro i v h; simp at h
  | cons x l ih =>
    intro i v h
    cases i with
    | zero => simp [sumF]; omega
    | succ i =>
      have := ih i v (by simpa using h)
      simp only [List.set_cons_succ, sumF, List.getD_cons_succ, this]; omega
theorem sumF_le (f : Int → Int) (h : ∀ x, f x ≤ 1) : ∀ l : List Int, sumF f l ≤ l.length := by
  intro l
  induction l with
  | nil => simp [sumF]
  | cons x l ih => have := h x; simp only [sumF, List.length_cons]; omega
theorem sumF_nonneg (f : Int → Int) (h : ∀ x, 0 ≤ f x) : ∀ l : List Int, 0 ≤ sumF f l := by
  intro l
  induction l with
  | nil => simp [sumF]
  | cons x l ih => have := h x; simp only [sumF]; omega
theorem sumF_replicate (f : Int → Int) (v : Int) : ∀ n : Nat, sumF f (List.replicate n v) = n * f v := by
  intro n
  induction n with
  | zero => simp [sumF]
  | succ n ih => rw [List.replicate_succ, sumF, ih, Int.natCast_succ, Int.add_mul]; omega
def one0 (v : Int) : Int := if 0 ≤ v then 1 else 0
def cost0 (v : Int) : Int := if v < 0 then 4000 else v
def cntL (l : List Int) : Int := sumF one0 l
def costL (l : List Int) : Int := sumF cost0 l
theorem cost0_nonneg (v : Int) : 0 ≤ cost0 v := by unfold cost0; split <;> omega
theorem costL_nonneg (l : List Int) : 0 ≤ costL l := sumF_nonneg _ cost0_nonneg l
theorem cntL_le (l : List Int) : cntL l ≤ l.length := sumF_le _ (fun x => by unfold one0; split <;> omega) l
/-- What the search keeps. -/
def LInv (g : List Int) (a : Nat) (L : List Int) : Prop :=
  L.length = a ∧ L.getD 0 0 = 0 ∧ ∀ r, r < a → 0 ≤ L.getD r 0 → Gen g (L.getD r 0) ∧ L.getD r 0 % (a : Int) = (r : Int) ∧ L.getD r 0 ≤ 60 * (cntL L - 1)
/-- From class r on no number leads to a lesser sum. -/
def RelaxedAt (a : Nat) (L : List Int) (r : Nat) (x : Int) : Prop := 0 ≤ L.getD (((r : Int) + x) % (a : Int)).toNat 0 ∧ L.getD (((r : Int) + x) % (a : Int)).toNat 0 ≤ L.getD r 0 + x
def Relaxed (g : List Int) (a : Nat) (L : List Int) (r : Nat) : Prop := 0 ≤ L.getD r 0 → ∀ x ∈ g, RelaxedAt a L r x
def RelaxedTo (g : List Int) (a : Nat) (L : List Int) (r : Nat) (j : Nat) : Prop := ∀ x ∈ g.take j, RelaxedAt a L r x
theorem LInv.bound {g : List Int} {a : Nat} {L : List Int} (h : LInv g a L) (ha : a ≤ 60) {r : Nat} (hr : r < a) : L.getD r 0 ≤ 3540 := by
  by_cases h0 : 0 ≤ L.getD r 0
  · have h1 := (h.2.2 r hr h0).2.2
    have h2 := cntL_le L
    rw [h.1] at h2
    omega
  · omega
/-- A lesser sum is noted down. -/
theorem LInv.step {g : List Int} {a : Nat} {L : List Int} (h : LInv g a L) (ha : 1 ≤ a) (ha' : a ≤ 60) {r : Nat} (hr : r < a) (h0 : 0 ≤ L.getD r 0) {x : Int} (hx : x ∈ g) (hx1 : 1 ≤ x) (hx2 : x ≤ 60)
    {t : Nat} (ht : ((r : Int) + x) % (a : Int) = (t : Int)) (hl : L.getD t 0 < 0 ∨ L.getD r 0 + x < L.getD t 0) :
    LInv g a (L.set t (L.getD r 0 + x)) ∧ costL (L.set t (L.getD r 0 + x)) < costL L ∧ t < a ∧ t ≠ r := by
  have hta : t < a := by
    have := Int.emod_lt_of_pos ((r : Int) + x) (show (0 : Int) < (a : Int) by omega)
    omega
  have hne : t ≠ r := by
    intro e
    subst e
    rcases hl with hl | hl <;> omega
  have hb := h.bound ha' hr
  have hL := h.1
  obtain ⟨g1, g2, g3⟩ := h.2.2 r hr h0
  have hc : cntL (L.set t (L.getD r 0 + x)) = cntL L - one0 (L.getD t 0) + 1 := by
    unfold cntL
    rw [sumF_set _ _ _ _ (by omega)]
    unfold one0
    rw [if_pos (show 0 ≤ L.getD r 0 + x by omega)]
  have hk : costL (L.set t (L.getD r 0 + x)) = costL L - cost0 (L.getD t 0) + (L.getD r 0 + x) := by
    unfold costL
    rw [sumF_set _ _ _ _ (by omega)]
    unfold cost0
    rw [if_neg (show ¬ L.getD r 0 + x < 0 by omega)]
  have ho : one0 (L.getD t 0) = 1 ∨ (one0 (L.getD t 0) = 0 ∧ L.getD t 0 < 0) := by
    unfold one0
    split
    · exact .inl rfl
    · exact .inr ⟨rfl, by omega⟩
  have t0 : L.getD t 0 ≠ 0 ∨ t ≠ 0 := by
    by_cases e : t = 0
    · subst e
      left
      rcases hl with hl | hl <;> omega
    · exact .inr e
  refine ⟨⟨by simp [hL], ?_, ?_⟩, ?_, hta, hne⟩
  · rw [getD_set]
    by_cases e : t = 0
    · subst e
      have := h.2.1
      rcases t0 with t0 | t0 <;> omega
    · rw [if_neg (fun hh => e hh.1)]; exact h.2.1
  · intro q hq hq0
    rw [getD_set] at hq0 ⊢
    by_cases e : t = q ∧ q < L.length
    · rw [if_pos e] at hq0 ⊢
      obtain ⟨e, _⟩ := e
      subst e
      refine ⟨g1.add hx, ?_, ?_⟩
      · rw [← ht, Int.add_emod, g2, ← Int.add_emod_emod]
        rw [Int.add_emod_emod]
        rw [Int.add_emod (r : Int) x]
        rw [Int.emod_eq_of_lt (show (0 : Int) ≤ (r : Int) by omega) (by omega)]
      · rw [hc]
        rcases ho with ho | ⟨ho, hneg⟩
        · rw [ho]
          rcases hl with hl | hl
          · unfold one0 at ho; rw [if_neg (by omega)] at ho; omega
          · have := h.2.2 t hta (by omega)
            omega
        · rw [ho]; omega
    · rw [if_neg e] at hq0 ⊢
      obtain ⟨q1, q2, q3⟩ := h.2.2 q hq hq0
      refine ⟨q1, q2, ?_⟩
      rw [hc]
      rcases ho with ho | ⟨ho, _⟩ <;> rw [ho] <;> omega
  · rw [hk]
    unfold cost0
    split
    · omega
    · rcases hl with hl | hl <;> omega
/-- What stands when a whole round has changed nothing. -/
def LGood (g : List Int) (a : Nat) (L : List Int) : Prop := LInv g a L ∧ ∀ r, r < a → Relaxed g a L r
theorem LGood.isLeasts {g : List Int} {a : Nat} {L : List Int} (h : LGood g a L) (ha : 1 ≤ a) (ha' : a ≤ 60) (hg : ∀ x ∈ g, 1 ≤ x ∧ x ≤ 60) : IsLeasts g a L := by
  have key : ∀ n, Gen g n → 0 ≤ L.getD (n % (a : Int)).toNat 0 ∧ L.getD (n % (a : Int)).toNat 0 ≤ n := by
    intro n hn
    induction hn with
    | zero => simp only [Int.zero_emod, Int.toNat_zero]; have := h.1.2.1; omega
    | @add m x hm hx ih =>
      have hr : (m % (a : Int)).toNat < a := by
        have := Int.emod_lt_of_pos m (show (0 : Int) < (a : Int) by omega)
        have := Int.emod_nonneg m (show (a : Int) ≠ 0 by omega)
        omega
      have := h.2 _ hr ih.1 x hx
      unfold RelaxedAt at this
      have e : (((m % (a : Int)).toNat : Nat) : Int) = m % (a : Int) := Int.toNat_of_nonneg (Int.emod_nonneg m (by omega))
      rw [e, Int.emod_add_emod] at this
      omega
  refine ⟨h.1.1, fun r hr => ⟨fun hneg n hn e => ?_, fun hnn => ?_⟩⟩
  · have := key n hn
    rw [e, Int.toNat_natCast] at this
    omega
  · obtain ⟨g1, g2, g3⟩ := h.1.2.2 r hr hnn
    refine ⟨⟨g1, g2, fun m hm e => ?_⟩, h.1.bound ha' hr⟩
    have := key m hm
    rw [e, Int.toNat_natCast] at this
    omega
theorem LInv.init {g : List Int} {a : Nat} (ha : 1 ≤ a) : LInv g a ((List.replicate a (-1 : Int)).set 0 0) := by
  have hl : (List.replicate a (-1 : Int)).length = a := by simp
  refine ⟨by simp, by rw [getD_set, if_pos ⟨rfl, by omega⟩], fun r hr h0 => ?_⟩
  rw [getD_set] at h0 ⊢
  by_cases e : 0 = r ∧ r < (List.replicate a (-1 : Int)).length
  · rw [if_pos e]
    obtain ⟨e, _⟩ := e
    subst e
    refine ⟨.zero, by simp, ?_⟩
    unfold cntL
    rw [sumF_set _ _ _ _ (by omega), sumF_replicate]
    simp [List.getD_eq_getElem?_getD, one0, List.getElem?_replicate, show 0 < a by omega]
  · rw [if_neg e] at h0
    simp [List.getD_eq_getElem?_getD, List.getElem?_replicate, hr] at h0
/-- Where there is a table of least sums, it tells what is a sum. -/
theorem IsLeasts.gen {g : List Int} {a : Nat} {L : List Int} (h : IsLeasts g a L) (hag : (a : Int) ∈ g) (ha : 1 ≤ a) (n : Int) : Gen g n ↔ 0 ≤ L.getD (n % (a : Int)).toNat 0 ∧ L.getD (n % (a : Int)).toNat 0 ≤ n := by
  have e0 := Int.emod_nonneg n (show (a : Int) ≠ 0 by omega)
  have hr : (n % (a : Int)).toNat < a := by
    have := Int.emod_lt_of_pos n (show (0 : Int) < (a : Int) by omega)
    omega
  have e : (((n % (a : Int)).toNat : Nat) : Int) = n % (a : Int) := Int.toNat_of_nonneg e0
  obtain ⟨h1, h2⟩ := h.2 _ hr
  constructor
  · intro hn
    have h0 : 0 ≤ L.getD (n % (a : Int)).toNat 0 := by
      apply Classical.byContradiction
      intro hc
      exact h1 (by omega) n hn (by rw [e])
    have := (h2 h0).1
    rw [e] at this
    exact ⟨h0, this.2.2 n hn rfl⟩
  · rintro ⟨h0, hle⟩
    have := (h2 h0).1
    rw [e] at this
    exact Gen.up hag (by omega) this.1 hle this.2.1.symm
theorem asc_iff {l : List Int} : Asc l ↔ l.Pairwise (· < ·) := by
  constructor
  · intro h
    rw [List.pairwise_iff_getElem]
    intro i j hi hj hij
    have := asc_lt h (j - (i + 1)) i (by omega)
    rw [show i + 1 + (j - (i + 1)) = j by omega, getD_get hi, getD_get hj] at this
    exact this
  · intro h j hj
    rw [List.pairwise_iff_getElem] at h
    have := h j (j + 1) (by omega) hj (by omega)
    rw [getD_get (by omega), getD_get hj]
    exact this
theorem asc_ext : ∀ {s t : List Int}, s.Pairwise (· < ·) → t.Pairwise (· < ·) → (∀ x, x ∈ s ↔ x ∈ t) → s = t := by
  intro s
  induction s with
  | nil =>
    intro t _ _ h
    cases t with
    | nil => rfl
    | cons y t => exact absurd ((h y).2 (by simp)) (by simp)
  | cons x s ih =>
    intro t hs ht h
    cases t with
    | nil => exact absurd ((h x).1 (by simp)) (by simp)
    | cons y t =>
      rw [List.pairwise_cons] at hs ht
      have hxy : x = y := by
        rcases List.mem_cons.1 ((h x).1 (by simp)) with e | e
        · exact e
        · rcases List.mem_cons.1 ((h y).2 (by simp)) with e2 | e2
          · exact e2.symm
          · have a := ht.1 x e
            have b := hs.1 y e2
            omega
      subst hxy
      rw [ih hs.2 ht.2 (fun z => ?_)]
      constructor
      · intro hz
        rcases List.mem_cons.1 ((h z).1 (by simp [hz])) with e | e
        · have := hs.1 z hz; omega
        · exact e
      · intro hz
        rcases List.mem_cons.1 ((h z).2 (by simp [hz])) with e | e
        · have := ht.1 z hz; omega
        · exact e
/-- s is l in ascending order, each number once. -/
def IsSort (l s : List Int) : Prop := s.Pairwise (· < ·) ∧ ∀ x, x ∈ s ↔ x ∈ l
theorem IsSort.unique {l s t : List Int} (h : IsSort l s) (h' : IsSort l t) : s = t := asc_ext h.1 h'.1 (fun x => (h.2 x).trans (h'.2 x).symm)
theorem IsSort.self {l : List Int} (h : Asc l) : IsSort l l := ⟨asc_iff.1 h, fun _ => Iff.rfl⟩
theorem insert_sorted {s : List Int} (hs : s.Pairwise (· < ·)) (at_ : Nat) (hat : at_ ≤ s.length) (v : Int) (hlo : 0 < at_ → s.getD (at_ - 1) 0 < v) (hhi : ∀ i, at_ ≤ i → i < s.length → v < s.getD i 0) :
    (s.take at_ ++ [v] ++ s.drop at_).Pairwise (· < ·) ∧ ∀ x, x ∈ s.take at_ ++ [v] ++ s.drop at_ ↔ x ∈ s ∨ x = v := by
  have hmem : ∀ x, x ∈ s.take at_ ++ [v] ++ s.drop at_ ↔ x ∈ s ∨ x = v := by
    intro x
    have e : x ∈ s ↔ x ∈ s.take at_ ∨ x ∈ s.drop at_ := by rw [← List.mem_append, List.take_append_drop]
    simp only [List.mem_append, List.mem_singleton]
    rw [e]
    constructor
    · rintro ((h | h) | h)
      · exact .inl (.inl h)
      · exact .inr h
      · exact .inl (.inr h)
    · rintro ((h | h) | h)
      · exact .inl (.inl h)
      · exact .inr h
      · exact .inl (.inr h)
  refine ⟨?_, hmem⟩
  have hl : ∀ a ∈ s.take at_, a < v := by
    intro a ha
    obtain ⟨i, hi, e⟩ := mem_getD ha
    rw [List.length_take] at hi
    have hv := hlo (by omega)
    have ea : a = s.getD i 0 := by
      rw [← e]
      simp only [List.getD_eq_getElem?_getD, List.getElem?_take]
      rw [if_pos (by omega)]
    rw [ea]
    by_cases e2 : i = at_ - 1
    · rw [e2]; exact hv
    · have := asc_lt (asc_iff.2 hs) (at_ - 1 - (i + 1)) i (by omega)
      rw [show i + 1 + (at_ - 1 - (i + 1)) = at_ - 1 by omega] at this
      omega
  have hr : ∀ b ∈ s.drop at_, v < b := by
    intro b hb
    obtain ⟨i, hi, e⟩ := mem_getD hb
    rw [List.length_drop] at hi
    have eb : b = s.getD (at_ + i) 0 := by
      rw [← e]
      simp only [List.getD_eq_getElem?_getD, List.getElem?_drop]
    rw [eb]
    exact hhi _ (by omega) (by omega)
  rw [List.pairwise_append, List.pairwise_append]
  refine ⟨⟨hs.sublist (List.take_sublist _ _), List.pairwise_singleton _ _, fun a ha b hb => ?_⟩, hs.sublist (List.drop_sublist _ _), fun a ha b hb => ?_⟩
  · rw [List.mem_singleton.1 hb]; exact hl a ha
  · rcases List.mem_append.1 ha with ha | ha
    · exact Int.lt_trans (hl a ha) (hr b hb)
    · rw [List.mem_singleton.1 ha]; exact hr b hb
/-- What is kept of the first k numbers of s: those that are no sums of the ones before. -/
noncomputable def minK (s : List Int) : Nat → List Int
  | 0 => []
  | k + 1 => minK s k ++ (if B (k = 0 ∨ ¬ Gen (s.take k) (s.getD k 0)) = true then [s.getD k 0] else [])
theorem minK_sub (s : List Int) : ∀ k, k ≤ s.length → ∀ x ∈ minK s k, x ∈ s.take k := by
  intro k
  induction k with
  | zero => intro _ x hx; simp [minK] at hx
  | succ k ih =>
    intro hk x hx
    rw [List.take_succ_eq_append_getElem (by omega)]
    rw [minK] at hx
    rcases List.mem_append.1 hx with hx | hx
    · exact List.mem_append.2 (.inl (ih (by omega) x hx))
    · split at hx
      · rw [List.mem_singleton.1 hx, getD_get (by omega)]; exact List.mem_append.2 (.inr (List.mem_singleton.2 rfl))
      · simp at hx
theorem minK_length (s : List Int) : ∀ k, (minK s k).length ≤ k := by
  intro k
  induction k with
  | zero => simp [minK]
  | succ k ih => rw [minK, List.length_append]; split <;> simp <;> omega
/-- What is kept makes the same sums. -/
theorem minK_gen (s : List Int) : ∀ k, k ≤ s.length → ∀ n, Gen (minK s k) n ↔ Gen (s.take k) n := by
  intro k
  induction k with
  | zero => intro _ n; simp [minK]
  | succ k ih =>
    intro hk n
    constructor
    · exact Gen.sub (minK_sub s (k + 1) hk)
    · intro hn
      refine hn.mono (fun x hx => ?_)
      rw [List.take_succ_eq_append_getElem (by omega)] at hx
      rw [minK]
      rcases List.mem_append.1 hx with hx | hx
      · have h1 := (ih (by omega) x).2 (.one hx)
        exact h1.sub (fun y hy => List.mem_append.2 (.inl hy))
      · rw [List.mem_singleton.1 hx]
        by_cases hc : B (k = 0 ∨ ¬ Gen (s.take k) (s.getD k 0)) = true
        · rw [if_pos hc]
          refine .one (List.mem_append.2 (.inr ?_))
          rw [getD_get (by omega)]; simp
        · rw [B_iff] at hc
          have h2 : Gen (s.take k) (s.getD k 0) := by
            apply Classical.byContradiction
            intro h; exact hc (.inr h)
          rw [getD_get (by omega)] at h2
          have h3 := (ih (by omega) _).2 h2
          exact h3.sub (fun y hy => List.mem_append.2 (.inl hy))
theorem minK_asc (s : List Int) (hs : s.Pairwise (· < ·)) : ∀ k, k ≤ s.length → (minK s k).Pairwise (· < ·) := by
  intro k
  induction k with
  | zero => intro _; simp [minK]
  | succ k ih =>
    intro hk
    rw [minK, List.pairwise_append]
    refine ⟨ih (by omega), by split <;> simp, fun a ha b hb => ?_⟩
    split at hb
    · rw [List.mem_singleton.1 hb]
      have ha' := minK_sub s k (by omega) a ha
      obtain ⟨i, hi, e⟩ := mem_getD ha'
      rw [List.length_take] at hi
      have ea : a = s.getD i 0 := by
        rw [← e]
        simp only [List.getD_eq_getElem?_getD, List.getElem?_take]
        rw [if_pos (by omega)]
      rw [ea]
      have := asc_lt (asc_iff.2 hs) (k - (i + 1)) i (by omega)
      rwa [show i + 1 + (k - (i + 1)) = k by omega] at this
    · simp at hb
/-- No number is a sum of the ones before it. -/
def Min (s : List Int) : Prop := ∀ i, 1 ≤ i → i < s.length → ¬ Gen (s.take i) (s.getD i 0)
theorem minK_eq_iff (s : List Int) : ∀ k, k ≤ s.length → ((minK s k = s.take k ↔ ∀ i, 1 ≤ i → i < k → ¬ Gen (s.take i) (s.getD i 0)) ∧ ((minK s k).length = k → minK s k = s.take k)) := by
  intro k
  induction k with
  | zero => intro _; exact ⟨⟨fun _ i h1 h2 => by omega, fun _ => by simp [minK]⟩, fun _ => by simp [minK]⟩
  | succ k ih =>
    intro hk
    obtain ⟨i1, i2⟩ := ih (by omega)
    have hlen := minK_length s k
    have ht : s.take (k + 1) = s.take k ++ [s.getD k 0] := by rw [List.take_succ_eq_append_getElem (by omega), getD_get (by omega)]
    rw [minK, ht]
    by_cases hc : B (k = 0 ∨ ¬ Gen (s.take k) (s.getD k 0)) = true
    · rw [if_pos hc]
      rw [B_iff] at hc
      constructor
      · rw [List.append_left_inj, i1]
        constructor
        · intro h i h1 h2
          by_cases e : i = k
          · subst e
            rcases hc with hc | hc
            · omega
            · exact hc
          · exact h i h1 (by omega)
        · intro h i h1 h2
          exact h i h1 (by omega)
      · intro h
        rw [List.length_append] at h
        simp at h
        rw [i2 h]
    · rw [if_neg hc, List.append_nil]
      rw [B_iff] at hc
      have hne : minK s k ≠ s.take k ++ [s.getD k 0] := by
        intro h
        have := congrArg List.length h
        rw [List.length_append, List.length_take] at this
        simp at this
        omega
      refine ⟨⟨fun h => absurd h hne, fun h => ?_⟩, fun h => by omega⟩
      exfalso
      by_cases e : k = 0
      · exact hc (.inl e)
      · exact hc (.inr (h k (by omega) (by omega)))
noncomputable def minV (s : List Int) : List Int := minK s s.length
theorem minV_self {s : List Int} : minV s = s ↔ Min s := by
  have := (minK_eq_iff s s.length (Nat.le_refl _)).1
  rw [List.take_length] at this
  exact this
/-- A semigroup. -/
def SG (g : List Int) : Prop := (1 ≤ g.length ∧ g.length ≤ 12) ∧ (∀ x ∈ g, 1 ≤ x ∧ x ≤ 60) ∧ Asc g ∧ gcdLV g = 1 ∧ Min g ∧ ∀ n, 200 ≤ n → Gen g n
theorem SG.pos {g : List Int} (h : SG g) : ∀ x ∈ g, 1 ≤ x := fun x hx => (h.2.1 x hx).1
theorem SG.head {g : List Int} (h : SG g) : g.getD 0 0 ∈ g ∧ 1 ≤ g.getD 0 0 ∧ g.getD 0 0 ≤ 60 := by
  have hm : g.getD 0 0 ∈ g := getD_mem (by have := h.1; omega)
  exact ⟨hm, h.2.1 _ hm⟩
/-- Of classes all of whose great numbers are sums. -/
theorem ends_iff {g : List Int} {a : Int} (ha : a ∈ g) (ha1 : 1 ≤ a) : (∀ n, 200 ≤ n → Gen g n) ↔ ∀ n, 200 ≤ n → n < 200 + a → Gen g n := by
  constructor
  · intro h n h1 _; exact h n h1
  · intro h n hn
    have m0 := Int.emod_nonneg (n - 200) (show a ≠ 0 by omega)
    have m1 := Int.emod_lt_of_pos (n - 200) (show 0 < a by omega)
    refine Gen.up ha ha1 (h (200 + (n - 200) % a) (by omega) (by omega)) ?_ ?_
    · have := Int.emod_add_mul_ediv (n - 200) a
      have : 0 ≤ a * ((n - 200) / a) := Int.mul_nonneg (by omega) (Int.ediv_nonneg (by omega) (by omega))
      omega
    · rw [Int.add_emod_emod]
      congr 1; omega
/-- Generates' answer. -/
noncomputable def genV (l : List Int) (n : Int) : Bool := B (((∀ x ∈ l, 1 ≤ x ∧ x ≤ 60) ∧ 1 ≤ l.length ∧ l.length ≤ 20) ∧ (0 ≤ n ∧ n ≤ 1000000) ∧ Gen l n)
/-- Every class is reached where the common divisor is 1. -/
theorem IsLeasts.full {g : List Int} {a : Nat} {L : List Int} (h : IsLeasts g a L) (hag : (a : Int) ∈ g) (ha : 1 ≤ a) (hg : ∀ x ∈ g, 1 ≤ x ∧ x ≤ 60) (h1 : gcdLV g = 1) (r : Nat) (hr : r < a) : 0 ≤ L.getD r 0 := by
  apply Classical.byContradiction
  intro hc
  obtain ⟨m, hm, em⟩ := Cls.all (g := g) (a := (a : Int)) (by omega) hg (r : Int) (by rw [h1]; exact Int.one_dvd _)
  refine (h.2 r hr).1 (by omega) m hm ?_
  rw [em, Int.emod_eq_of_lt (by omega) (by omega)]
/-- The ends of all classes, as the least sums tell them. -/
theorem IsLeasts.ends_leasts {g : List Int} {a : Nat} {L : List Int} (h : IsLeasts g a L) (hag : (a : Int) ∈ g) (ha : 1 ≤ a) (hg : ∀ x ∈ g, 1 ≤ x ∧ x ≤ 60) (h1 : gcdLV g = 1) :
    (∀ r, r < a → L.getD r 0 - (a : Int) < 200) ↔ ∀ n, 200 ≤ n → Gen g n := by
  have full : ∀ r, r < a → 0 ≤ L.getD r 0 := by
    intro r hr
    apply Classical.byContradiction
    intro hc
    obtain ⟨m, hm, em⟩ := Cls.all (g := g) (a := (a : Int)) (by omega) hg (r : Int) (by rw [h1]; exact Int.one_dvd _)
    refine (h.2 r hr).1 (by omega) m hm ?_
    rw [em, Int.emod_eq_of_lt (by omega) (by omega)]
  constructor
  · intro hall n hn
    have e0 := Int.emod_nonneg n (show (a : Int) ≠ 0 by omega)
    have hr : (n % (a : Int)).toNat < a := by
      have := Int.emod_lt_of_pos n (show (0 : Int) < (a : Int) by omega)
      omega
    have e : (((n % (a : Int)).toNat : Nat) : Int) = n % (a : Int) := Int.toNat_of_nonneg e0
    have f0 := full _ hr
    have hl := ((h.2 _ hr).2 f0).1
    have ha2 := hall _ hr
    rw [h.gen hag ha]
    refine ⟨f0, ?_⟩
    apply Classical.byContradiction
    intro hc
    have hm := hl.2.1
    rw [e] at hm
    have hd : (a : Int) ∣ (L.getD (n % (a : Int)).toNat 0 - n) := by
      apply Int.dvd_of_emod_eq_zero
      rw [Int.sub_emod, hm, Int.sub_self, Int.zero_emod]
    have := Int.le_of_dvd (by omega) hd
    omega
  · intro hall r hr
    apply Classical.byContradiction
    intro hc
    have hl := ((h.2 r hr).2 (full r hr)).1
    have hg' := hall (L.getD r 0 - (a : Int)) (by omega)
    have := hl.2.2 _ hg' (by rw [Int.sub_emod_right]; exact hl.2.1)
    omega
/-- The numbers from j on, d of them, for which P holds. -/
def scanV (P : Nat → Bool) : Nat → Nat → List Int
  | 0, _ => []
  | d + 1, j => (if P j = true then [(j : Int)] else []) ++ scanV P d (j + 1)
theorem scanV_mem (P : Nat → Bool) : ∀ (d j : Nat) (x : Int), x ∈ scanV P d j ↔ ∃ i : Nat, j ≤ i ∧ i < j + d ∧ P i = true ∧ x = (i : Int) := by
  intro d
  induction d with
  | zero =>
    intro j x
    simp only [scanV, List.not_mem_nil, false_iff]
    rintro ⟨i, h1, h2, _⟩
    omega
  | succ d ih =>
    intro j x
    rw [scanV, List.mem_append, ih]
    constructor
    · rintro (h | ⟨i, h1, h2, h3, h4⟩)
      · split at h
        · exact ⟨j, by omega, by omega, by assumption, List.mem_singleton.1 h⟩
        · simp at h
      · exact ⟨i, by omega, by omega, h3, h4⟩
    · rintro ⟨i, h1, h2, h3, h4⟩
      by_cases e : i = j
      · subst e
        left
        rw [if_pos h3, h4]
        exact List.mem_singleton.2 rfl
      · exact .inr ⟨i, by omega, by omega, h3, h4⟩
theorem scanV_asc (P : Nat → Bool) : ∀ (d j : Nat), (scanV P d j).Pairwise (· < ·) := by
  intro d
  induction d with
  | zero => intro j; exact .nil
  | succ d ih =>
    intro j
    rw [scanV, List.pairwise_append]
    refine ⟨by split <;> simp, ih (j + 1), fun a ha b hb => ?_⟩
    obtain ⟨i, h1, h2, h3, rfl⟩ := (scanV_mem P d (j + 1) b).1 hb
    split at ha
    · rw [List.mem_singleton.1 ha]; omega
    · simp at ha
theorem scanV_length (P : Nat → Bool) : ∀ (d j : Nat), (scanV P d j).length ≤ d := by
  intro d
  induction d with
  | zero => intro j; simp [scanV]
  | succ d ih =>
    intro j
    rw [scanV, List.length_append]
    have := ih (j + 1)
    split <;> simp <;> omega
theorem scanV_append (P : Nat → Bool) : ∀ (d e j : Nat), scanV P (d + e) j = scanV P d j ++ scanV P e (j + d) := by
  intro d
  induction d with
  | zero => intro e j; simp [scanV]
  | succ d ih =>
    intro e j
    rw [show d + 1 + e = (d + e) + 1 by omega, scanV, scanV, ih, List.append_assoc]
    rw [show j + 1 + d = j + (d + 1) by omega]
theorem scanV_full {P : Nat → Bool} : ∀ (d j : Nat), (∀ i, j ≤ i → i < j + d → P i = true) → (scanV P d j).length = d ∧ ∀ k, k < d → (scanV P d j).getD k 0 = ((j + k : Nat) : Int) := by
  intro d
  induction d with
  | zero => intro j _; exact ⟨rfl, fun k hk => by omega⟩
  | succ d ih =>
    intro j h
    obtain ⟨h1, h2⟩ := ih (j + 1) (fun i a b => h i (by omega) (by omega))
    rw [scanV, if_pos (h j (by omega) (by omega))]
    refine ⟨by simp [h1], fun k hk => ?_⟩
    cases k with
    | zero => simp
    | succ k =>
      have := h2 k (by omega)
      simp only [List.cons_append, List.nil_append, List.getD_cons_succ]
      rw [this]; omega
/-- Is it a sum? -/
noncomputable def gB (g : List Int) (n : Nat) : Bool := B (Gen g (n : Int))
theorem gB_iff {g : List Int} {n : Nat} : gB g n = true ↔ Gen g (n : Int) := B_iff
theorem nB_iff {g : List Int} {n : Nat} : (!gB g n) = true ↔ ¬ Gen g (n : Int) := by
  rw [← gB_iff]; cases gB g n <;> simp
noncomputable def gapsV (g : List Int) : List Int := scanV (fun n => !gB g n) 200 0
theorem gapsV_mem {g : List Int} (h : SG g) (x : Int) : x ∈ gapsV g ↔ 0 ≤ x ∧ ¬ Gen g x := by
  unfold gapsV
  rw [scanV_mem]
  constructor
  · rintro ⟨i, h1, h2, h3, rfl⟩
    exact ⟨by omega, nB_iff.1 h3⟩
  · rintro ⟨h1, h2⟩
    have h3 : x < 200 := by
      apply Classical.byContradiction
      intro hc
      exact h2 (h.2.2.2.2.2 x (by omega))
    refine ⟨x.toNat, by omega, by omega, ?_, by omega⟩
    rw [nB_iff, Int.toNat_of_nonneg h1]
    exact h2
theorem gapsV_range {g : List Int} (h : SG g) {x : Int} (hx : x ∈ gapsV g) : 1 ≤ x ∧ x ≤ 199 := by
  obtain ⟨h1, h2⟩ := (gapsV_mem h x).1 hx
  refine ⟨?_, ?_⟩
  · by_cases e : x = 0
    · rw [e] at h2; exact absurd .zero h2
    · omega
  · apply Classical.byContradiction
    intro hc
    exact h2 (h.2.2.2.2.2 x (by omega))
theorem gapsV_asc (g : List Int) : (gapsV g).Pairwise (· < ·) := scanV_asc _ _ _
theorem gapsV_length (g : List Int) : (gapsV g).length ≤ 200 := scanV_length _ _ _
theorem scanV_cons (P : Nat → Bool) (d j : Nat) : scanV P (d + 1) j = (if P j = true then [(j : Int)] else []) ++ scanV P d (j + 1) := rfl
theorem gaps_from_one {g : List Int} : scanV (fun n => !gB g n) 199 1 = gapsV g := by
  have h := scanV_cons (fun n => !gB g n) 199 0
  have h0 : ¬ (!gB g 0) = true := fun hc => (nB_iff (g := g) (n := 0)).1 hc .zero
  rw [if_neg h0] at h
  exact h.symm
theorem gaps_to_200 {g : List Int} (h : SG g) : scanV (fun n => !gB g n) 201 0 = gapsV g := by
  have e := scanV_append (fun n => !gB g n) 200 1 0
  have e2 := scanV_cons (fun n => !gB g n) 0 (0 + 200)
  have h0 : ¬ (!gB g (0 + 200)) = true := fun hc => (nB_iff (g := g) (n := 0 + 200)).1 hc (h.2.2.2.2.2 _ (by omega))
  rw [if_neg h0] at e2
  have e3 : scanV (fun n => !gB g n) (0 + 1) (0 + 200) = [] := e2
  have e4 : scanV (fun n => !gB g n) 1 (0 + 200) = [] := e3
  rw [e4, List.append_nil] at e
  exact e
/-- The last number of a list, or -1. -/
def lastV (l : List Int) : Int := if l.length = 0 then -1 else l.getD (l.length - 1) 0
noncomputable def frobV (g : List Int) : Int := lastV (if B (SG g) = true then gapsV g else [])
theorem frobV_sg {g : List Int} (h : SG g) : frobV g = lastV (gapsV g) := by unfold frobV; rw [if_pos (B_true h)]
theorem frobV_not {g : List Int} (h : ¬ SG g) : frobV g = -1 := by unfold frobV; rw [if_neg (by rw [B_iff]; exact h)]; rfl
theorem frobV_range (g : List Int) : -1 ≤ frobV g ∧ frobV g ≤ 199 := by
  by_cases h : SG g
  · rw [frobV_sg h]
    unfold lastV
    split
    · omega
    · have := gapsV_range h (getD_mem (l := gapsV g) (j := (gapsV g).length - 1) (by omega))
      omega
  · rw [frobV_not h]; omega
/-- Above the greatest gap all are elements; it is a gap itself. -/
theorem frobV_above {g : List Int} (h : SG g) {n : Int} (hn : frobV g < n) (h0 : 0 ≤ n) : Gen g n := by
  apply Classical.byContradiction
  intro hc
  have hm := (gapsV_mem h n).2 ⟨h0, hc⟩
  have := asc_le_last (asc_iff.2 (gapsV_asc g)) hm
  rw [frobV_sg h] at hn
  unfold lastV at hn
  rw [if_neg (by intro e; rw [List.length_eq_zero_iff.1 e] at hm; simp at hm)] at hn
  omega
theorem frobV_gap {g : List Int} (h : SG g) (h0 : 0 ≤ frobV g) : ¬ Gen g (frobV g) := by
  rw [frobV_sg h] at h0 ⊢
  unfold lastV at h0 ⊢
  by_cases e : (gapsV g).length = 0
  · rw [if_pos e] at h0; omega
  · rw [if_neg e]
    exact ((gapsV_mem h _).1 (getD_mem (by omega))).2
noncomputable def smallV (g : List Int) (m : Nat) : List Int := scanV (gB g) m 0
noncomputable def contV (g : List Int) (n : Int) : Bool := B (SG g ∧ 0 ≤ n ∧ Gen g n)
/-- Least elements of the classes modulo n. -/
def IsAp (g : List Int) (n : Nat) (L : List Int) : Prop := L.length = n ∧ ∀ r, r < n → LeastIn g n r (L.getD r 0)
def ApV (g : List Int) (n : Int) (L : List Int) : Prop := (¬ (SG g ∧ Gen g n ∧ 1 ≤ n ∧ n ≤ 60) ∧ L = []) ∨ ((SG g ∧ Gen g n ∧ 1 ≤ n ∧ n ≤ 60) ∧ IsAp g n.toNat L)
theorem IsAp.unique {g : List Int} {n : Nat} {L L' : List Int} (h : IsAp g n L) (h' : IsAp g n L') : L = L' := by
  apply List.ext_getElem (h.1.trans h'.1.symm)
  intro i h1 h2
  have a := (h.2 i (by have := h.1; omega)).unique (h'.2 i (by have := h.1; omega))
  rwa [getD_get h1, getD_get h2] at a
theorem ApV.unique {g : List Int} {n : Int} {L L' : List Int} (h : ApV g n L) (h' : ApV g n L') : L = L' := by
  rcases h with ⟨h1, rfl⟩ | ⟨h1, h2⟩
  · rcases h' with ⟨_, rfl⟩ | ⟨h1', _⟩
    · rfl
    · exact absurd h1' h1
  · rcases h' with ⟨h1', _⟩ | ⟨_, h2'⟩
    · exact absurd h1 h1'
    · exact h2.unique h2'
theorem LeastIn.bound {g : List Int} (h : SG g) {n : Nat} (hn : 1 ≤ n) {r : Nat} (hr : r < n) {w : Int} (hw : LeastIn g n r w) : 0 ≤ w ∧ w < 200 + n := by
  refine ⟨hw.1.nonneg h.pos, ?_⟩
  have m0 := Int.emod_nonneg ((r : Int) - 200) (show (n : Int) ≠ 0 by omega)
  have m1 := Int.emod_lt_of_pos ((r : Int) - 200) (show (0 : Int) < (n : Int) by omega)
  have := hw.2.2 (200 + ((r : Int) - 200) % (n : Int)) (h.2.2.2.2.2 _ (by omega)) (by
    rw [Int.add_emod_emod, show 200 + ((r : Int) - 200) = (r : Int) by omega, Int.emod_eq_of_lt (by omega) (by omega)])
  omega
theorem IsAp.range {g : List Int} (h : SG g) {n : Nat} (hn : 1 ≤ n) (hn' : n ≤ 60) {L : List Int} (hL : IsAp g n L) {x : Int} (hx : x ∈ L) : 0 ≤ x ∧ x < 260 := by
  obtain ⟨j, hj, rfl⟩ := mem_getD hx
  have := (hL.2 j (by have := hL.1; omega)).bound h hn (by have := hL.1; omega)
  omega
theorem least_nat {g : List Int} (h : SG g) {v n r : Nat} (c : Gen g (v : Int)) (hr : v % n = r) (hm : ∀ m, m < v → m % n = r → ¬ Gen g (m : Int)) : LeastIn g n r (v : Int) := by
  refine ⟨c, by rw [← hr, Int.natCast_emod], fun m hg hmr => ?_⟩
  apply Classical.byContradiction
  intro hc
  have m0 := hg.nonneg h.pos
  obtain ⟨q, rfl⟩ : ∃ q : Nat, m = (q : Int) := ⟨m.toNat, by omega⟩
  refine hm q (by omega) ?_ hg
  have : ((q % n : Nat) : Int) = (r : Int) := by rw [Int.natCast_emod]; exact hmr
  omega
theorem ApV.length {g : List Int} {n : Int} {L : List Int} (h : ApV g n L) : L.length ≤ 1000000 := by
  rcases h with ⟨_, rfl⟩ | ⟨h1, h2⟩
  · simp
  · have := h2.1; omega
/-- The n-th element. -/
noncomputable def elemV (g : List Int) (n : Int) : Int := if B (SG g ∧ 0 ≤ n ∧ n ≤ 200) = true then (scanV (gB g) 601 0).getD n.toNat (-1) else -1
theorem elemV_sg {g : List Int} (h : SG g) (n : Nat) (hn : n ≤ 200) : elemV g (n : Int) = (scanV (gB g) 601 0).getD n (-1) := by
  unfold elemV; rw [if_pos (B_true ⟨h, by omega, by omega⟩), Int.toNat_natCast]
theorem elemV_not {g : List Int} {n : Int} (h : ¬ (SG g ∧ 0 ≤ n ∧ n ≤ 200)) : elemV g n = -1 := by
  unfold elemV; rw [if_neg (by rw [B_iff]; exact h)]
theorem getD_of_lt {l : List Int} {j : Nat} (h : j < l.length) (a b : Int) : l.getD j a = l.getD j b := by simp [List.getD_eq_getElem?_getD, h]
theorem small_split {g : List Int} (h : SG g) : ∃ c : Nat, (c : Int) = frobV g + 1 ∧ c ≤ 200 ∧ scanV (gB g) 601 0 = smallV g c ++ scanV (gB g) (601 - c) c ∧ (smallV g c).length ≤ c := by
  have hr := frobV_range g
  refine ⟨(frobV g + 1).toNat, by omega, by omega, ?_, scanV_length _ _ _⟩
  have := scanV_append (gB g) (frobV g + 1).toNat (601 - (frobV g + 1).toNat) 0
  rw [show (frobV g + 1).toNat + (601 - (frobV g + 1).toNat) = 601 by omega, Nat.zero_add] at this
  exact this
theorem elem_low {g : List Int} {c n : Nat} (h2 : scanV (gB g) 601 0 = smallV g c ++ scanV (gB g) (601 - c) c) (hn : n < (smallV g c).length) : (scanV (gB g) 601 0).getD n (-1) = (smallV g c).getD n 0 := by
  rw [h2, List.getD_eq_getElem?_getD, List.getElem?_append_left hn, ← List.getD_eq_getElem?_getD]
  exact getD_of_lt hn _ _
theorem elem_high {g : List Int} (h : SG g) {c n : Nat} (h1 : (c : Int) = frobV g + 1) (h3 : c ≤ 200) (h2 : scanV (gB g) 601 0 = smallV g c ++ scanV (gB g) (601 - c) c) (hn : (smallV g c).length ≤ n) (hn2 : n ≤ 200) : (scanV (gB g) 601 0).getD n (-1) = (c : Int) + n - (smallV g c).length := by
  have hf := scanV_full (P := gB g) (601 - c) c (fun i i1 i2 => gB_iff.2 (frobV_above h (by omega) (by omega)))
  rw [h2, List.getD_eq_getElem?_getD, List.getElem?_append_right hn, ← List.getD_eq_getElem?_getD, getD_of_lt (by rw [hf.1]; omega) (-1) 0, hf.2 _ (by omega)]
  omega
/-- The sum of the quotients from place j on. -/
def quotsV (n : Int) : List Int → Int
  | [] => 0
  | x :: l => x / n + quotsV n l
def QV (g : List Int) (n v : Int) : Prop := ∃ L, ApV g n L ∧ v = if L.length = 0 then -1 else quotsV n L
theorem QV.unique {g : List Int} {n v v' : Int} (h : QV g n v) (h' : QV g n v') : v = v' := by
  obtain ⟨L, a, rfl⟩ := h
  obtain ⟨L', a', rfl⟩ := h'
  rw [a.unique a']
/-- Every number of l, put on top of x, lies in the semigroup. -/
noncomputable def allB (g : List Int) (x : Int) (l : List Int) : Bool := B (∀ y ∈ l, Gen g (x + y))
noncomputable def pfL (g : List Int) : List Int := (gapsV g).filter (fun x => allB g x g)
noncomputable def pfV (g : List Int) : List Int := if B (SG g) = true then pfL g else []
theorem pfL_length (g : List Int) : (pfL g).length ≤ 200 := Nat.le_trans (List.length_filter_le ..) (gapsV_length g)
theorem pfV_length (g : List Int) : (pfV g).length ≤ 200 := by
  unfold pfV
  split
  · exact pfL_length g
  · simp
def PFV (g w : List Int) : Prop := w = pfV g
theorem PFV.unique {g w w' : List Int} (h : PFV g w) (h' : PFV g w') : w = w' := h.trans h'.symm
theorem PFV.length {g w : List Int} (h : PFV g w) : w.length ≤ 1000000 := by rw [h]; have := pfV_length g; omega
noncomputable def spL (g : List Int) : List Int := (pfV g).filter (fun x => B (Gen g (2 * x)))
def SpV (g w : List Int) : Prop := w = spL g
theorem SpV.unique {g w w' : List Int} (h : SpV g w) (h' : SpV g w') : w = w' := h.trans h'.symm
theorem SpV.length {g w : List Int} (h : SpV g w) : w.length ≤ 1000000 := by
  rw [h]; have := pfV_length g; have h2 : (spL g).length ≤ (pfV g).length := List.length_filter_le ..; omega
/-- The quotients of the least elements, the first left out. -/
def CoV (g w : List Int) : Prop := (¬ SG g ∧ w = []) ∨ (SG g ∧ ∃ L, IsAp g (g.getD 0 0).toNat L ∧ w = (L.drop 1).map (fun x => x / g.getD 0 0))
theorem CoV.unique {g w w' : List Int} (h : CoV g w) (h' : CoV g w') : w = w' := by
  rcases h with ⟨h1, rfl⟩ | ⟨h1, L, hL, rfl⟩
  · rcases h' with ⟨_, rfl⟩ | ⟨h2, _⟩
    · rfl
    · exact absurd h2 h1
  · rcases h' with ⟨h2, _⟩ | ⟨_, L', hL', rfl⟩
    · exact absurd h1 h2
    · rw [hL.unique hL']
theorem CoV.length {g w : List Int} (h : CoV g w) : w.length ≤ 1000000 := by
  rcases h with ⟨_, rfl⟩ | ⟨h1, L, hL, rfl⟩
  · simp
  · have := hL.1; have := h1.head; simp; omega
/-- The numbers outside l are closed under sums. -/
def Closed (l : List Int) : Prop := ∀ a b : Nat, (a : Int) ∉ l → (b : Int) ∉ l → ((a + b : Nat) : Int) ∉ l
/-- Outside l, and no sum of two smaller ones. -/
def IrrN (l : List Int) (x : Nat) : Prop := 1 ≤ x ∧ (x : Int) ∉ l ∧ ∀ y : Nat, 1 ≤ y → 2 * y ≤ x → (y : Int) ∉ l → ((x - y : Nat) : Int) ∈ l
noncomputable def irrB (l : List Int) (x : Nat) : Bool := B (IrrN l x)
noncomputable def irrL (l : List Int) (n : Nat) : List Int := scanV (irrB l) n 0
theorem irrL_mem {l : List Int} {n : Nat} {x : Int} : x ∈ irrL l n ↔ ∃ i : Nat, i < n ∧ IrrN l i ∧ x = (i : Int) := by
  unfold irrL
  rw [scanV_mem]
  constructor
  · rintro ⟨i, _, h2, h3, h4⟩
    exact ⟨i, by omega, B_iff.1 h3, h4⟩
  · rintro ⟨i, h2, h3, h4⟩
    exact ⟨i, by omega, by omega, B_iff.2 h3, h4⟩
theorem irrL_length (l : List Int) (n : Nat) : (irrL l n).length ≤ n := scanV_length _ _ _
theorem irrL_succ (l : List Int) (j : Nat) : irrL l (j + 1) = irrL l j ++ (if irrB l j = true then [(j : Int)] else []) := by
  have := scanV_append (irrB l) j 1 0
  rw [Nat.zero_add] at this
  unfold irrL
  rw [this, scanV_cons, scanV, List.append_nil]
theorem irrL_skip {l : List Int} {j : Nat} (h : ¬ IrrN l j) : irrL l (j + 1) = irrL l j := by
  rw [irrL_succ, show irrB l j = false from B_false h, if_neg (by simp), List.append_nil]
theorem irrL_put {l : List Int} {j : Nat} (h : IrrN l j) : irrL l (j + 1) = irrL l j ++ [(j : Int)] := by
  rw [irrL_succ, show irrB l j = true from B_true h, if_pos rfl]
theorem closed_of {l : List Int} {n : Nat} (htop : ∀ x ∈ l, x ≤ (n : Int)) (h : ∀ a b, 1 ≤ a → a ≤ b → b ≤ n → ¬ gcViol l a b) : Closed l := by
  intro a b ha hb hc
  by_cases a0 : a = 0
  · subst a0
    rw [Nat.zero_add] at hc
    exact hb hc
  by_cases b0 : b = 0
  · subst b0
    exact ha hc
  have := htop _ hc
  rcases Nat.le_total a b with h1 | h1
  · exact h a b (by omega) h1 (by omega) ⟨ha, hb, hc⟩
  · exact h b a (by omega) h1 (by omega) ⟨hb, ha, by rwa [Nat.add_comm]⟩
theorem GC.closed {l : List Int} {r : Int × Int × Bool} (h : GC l r) (hg : GapL l) : r.2.2 = true ↔ ¬ Closed l := by
  rcases h with ⟨h, rfl⟩ | ⟨_, h2, h3⟩
  · have e : l = [] := by
      rcases h with h | h
      · exact absurd hg h
      · exact h
    subst e
    exact ⟨fun hh => by simp at hh, fun hh => absurd (fun a b _ _ hc => absurd hc List.not_mem_nil) hh⟩
  · have hl : 0 < l.length := List.length_pos_iff.2 h2
    have htop : ∀ x ∈ l, x ≤ (((l.getD (l.length - 1) 0).toNat : Nat) : Int) := fun x hx => by
      have h4 := asc_le_last hg.1 hx
      have h5 := hg.2 x hx
      omega
    rcases h3 with ⟨rfl, h3⟩ | ⟨a, b, h4, h5, h6, h7, rfl, _⟩
    · exact ⟨fun hh => by simp at hh, fun hh => absurd (closed_of htop h3) hh⟩
    · exact ⟨fun _ hc => hc a b h7.1 h7.2.1 h7.2.2, fun _ => rfl⟩
theorem irr_out {l : List Int} (hg : GapL l) (hc : Closed l) {n : Nat} {x : Int} (h : Gen (irrL l n) x) : ∃ m : Nat, x = (m : Int) ∧ (m : Int) ∉ l := by
  induction h with
  | zero => exact ⟨0, rfl, fun hh => by have := hg.2 _ hh; omega⟩
  | add _ hx ih =>
    obtain ⟨m, rfl, hm⟩ := ih
    obtain ⟨i, _, hi, rfl⟩ := irrL_mem.1 hx
    exact ⟨m + i, by omega, hc m i hm hi.2.1⟩
theorem irr_gen {l : List Int} : ∀ (x n : Nat), x < n → (x : Int) ∉ l → Gen (irrL l n) (x : Int) := by
  intro x
  induction x using Nat.strongRecOn with
  | ind x ih =>
    intro n hn hx
    by_cases x0 : x = 0
    · subst x0; exact .zero
    by_cases hi : IrrN l x
    · exact .one (irrL_mem.2 ⟨x, hn, hi, rfl⟩)
    · have : ∃ y : Nat, 1 ≤ y ∧ 2 * y ≤ x ∧ (y : Int) ∉ l ∧ ((x - y : Nat) : Int) ∉ l := by
        apply Classical.byContradiction
        intro hh
        exact hi ⟨by omega, hx, fun y h1 h2 h3 => Classical.byContradiction fun h4 => hh ⟨y, h1, h2, h3, h4⟩⟩
      obtain ⟨y, h1, h2, h3, h4⟩ := this
      have := (ih y (by omega) n (by omega) h3).sum (ih (x - y) (by omega) n (by omega) h4)
      rwa [show (y : Int) + ((x - y : Nat) : Int) = (x : Int) by omega] at this
theorem irr_big {l : List Int} {F : Nat} (htop : ∀ x ∈ l, x ≤ (F : Int)) {x : Nat} (hx : 2 * F + 2 ≤ x) : ¬ IrrN l x := by
  intro hi
  have h1 : ((F + 1 : Nat) : Int) ∉ l := fun hh => by have := htop _ hh; omega
  have h2 := hi.2.2 (F + 1) (by omega) (by omega) h1
  have := htop _ h2
  omega
theorem irrL_top {l : List Int} {F : Nat} (htop : ∀ x ∈ l, x ≤ (F : Int)) : ∀ (d n : Nat), 2 * F + 2 ≤ n → irrL l (n + d) = irrL l n := by
  intro d
  induction d with
  | zero => intro n _; rfl
  | succ d ih =>
    intro n hn
    rw [← Nat.add_assoc, irrL_skip (irr_big htop (by omega)), ih n hn]
theorem irr_gaps {l : List Int} (hg : GapL l) (hc : Closed l) {n : Nat} {F : Nat} (htop : ∀ x ∈ l, x ≤ (F : Int)) (hn : 2 * F + 2 ≤ n) (h : SG (irrL l n)) : gapsV (irrL l n) = l := by
  refine asc_ext (gapsV_asc _) (asc_iff.1 hg.1) (fun x => ?_)
  rw [gapsV_mem h]
  constructor
  · rintro ⟨h1, h2⟩
    apply Classical.byContradiction
    intro h3
    obtain ⟨m, rfl⟩ : ∃ m : Nat, x = (m : Int) := ⟨x.toNat, by omega⟩
    have := irr_gen m (n + (m + 1)) (by omega) h3
    rw [irrL_top htop (m + 1) n hn] at this
    exact h2 this
  · intro hx
    have := hg.2 x hx
    refine ⟨by omega, fun hgen => ?_⟩
    obtain ⟨m, rfl, hm⟩ := irr_out hg hc hgen
    exact hm hx
/-- What FromGaps answers. -/
def FGV (l : List Int) (r : List Int × Bool) : Prop := r = if B (GapL l ∧ Closed l ∧ SG (irrL l 401)) = true then (irrL l 401, true) else ([], false)
theorem FGV.unique {l : List Int} {r r' : List Int × Bool} (h : FGV l r) (h' : FGV l r') : r = r' := h.trans h'.symm
theorem FGV.length {l : List Int} {r : List Int × Bool} (h : FGV l r) : r.1.length ≤ 1000000 := by
  rw [h]
  split
  · have := irrL_length l 401
    exact Nat.le_trans this (by omega)
  · simp
/-- A sum that is no sum of two lesser ones. -/
def Atom (g : List Int) (x : Int) : Prop := 1 ≤ x ∧ Gen g x ∧ ∀ y, 1 ≤ y → y < x → Gen g y → ¬ Gen g (x - y)
theorem Atom.congr {g g' : List Int} (h : ∀ n, Gen g n ↔ Gen g' n) (x : Int) : Atom g x ↔ Atom g' x := by
  unfold Atom
  rw [h]
  exact ⟨fun ⟨a, b, c⟩ => ⟨a, b, fun y y1 y2 y3 y4 => c y y1 y2 ((h y).2 y3) ((h _).2 y4)⟩, fun ⟨a, b, c⟩ => ⟨a, b, fun y y1 y2 y3 y4 => c y y1 y2 ((h y).1 y3) ((h _).1 y4)⟩⟩
theorem gen_below {s : List Int} (hp : ∀ x ∈ s, 1 ≤ x) (ha : Asc s) {i : Nat} (hi : i < s.length) {n : Int} (hn : Gen s n) : n < s.getD i 0 → Gen (s.take i) n := by
  induction hn with
  | zero => intro _; exact .zero
  | @add m x hm hx ih =>
    intro hlt
    have h0 := hm.nonneg hp
    have hx1 := hp x hx
    refine (ih (by omega)).add ?_
    obtain ⟨j, hj, rfl⟩ := mem_getD hx
    have hji : j < i := by
      apply Classical.byContradiction
      intro hc
      by_cases e : j = i
      · subst e; omega
      · have := asc_lt ha (j - (i + 1)) i (by omega)
        rw [show i + 1 + (j - (i + 1)) = j by omega] at this
        omega
    rw [getD_get hj, List.mem_take_iff_getElem]
    exact ⟨j, by omega, rfl⟩
theorem min_atom {s : List Int} (hp : ∀ x ∈ s, 1 ≤ x) (ha : Asc s) (hm : Min s) (x : Int) : x ∈ s ↔ Atom s x := by
  constructor
  · intro hx
    refine ⟨hp x hx, .one hx, fun y y1 y2 y3 y4 => ?_⟩
    obtain ⟨i, hi, rfl⟩ := mem_getD hx
    have a := gen_below hp ha hi y3 y2
    have b := gen_below hp ha hi y4 (by omega)
    have c := a.sum b
    rw [show y + (s.getD i 0 - y) = s.getD i 0 by omega] at c
    by_cases e : i = 0
    · subst e
      rw [List.take_zero] at c
      rcases c.inv with h0 | ⟨z, hz, _⟩
      · omega
      · simp at hz
    · exact hm i (by omega) hi c
  · rintro ⟨h1, h2, h3⟩
    rcases h2.inv with h0 | ⟨z, hz, hg⟩
    · omega
    · have z1 := hp z hz
      have z2 := hg.nonneg hp
      by_cases e : x = z
      · rw [e]; exact hz
      · exact absurd hg (h3 z z1 (by omega) (.one hz))
/-- Two rows of least generators that make the same sums are the same. -/
theorem min_unique {s t : List Int} (hs : ∀ x ∈ s, 1 ≤ x) (ht : ∀ x ∈ t, 1 ≤ x) (as : Asc s) (at' : Asc t) (ms : Min s) (mt : Min t) (h : ∀ n, Gen s n ↔ Gen t n) : s = t :=
  asc_ext (asc_iff.1 as) (asc_iff.1 at') (fun x => by rw [min_atom hs as ms, min_atom ht at' mt, Atom.congr h])
theorem minV_asc {s : List Int} (hs : s.Pairwise (· < ·)) : Asc (minV s) := asc_iff.2 (minK_asc s hs s.length (Nat.le_refl _))
theorem minV_gen (s : List Int) (n : Int) : Gen (minV s) n ↔ Gen s n := by
  have := minK_gen s s.length (Nat.le_refl _) n
  rwa [List.take_length] at this
theorem minV_mem {s : List Int} {x : Int} (hx : x ∈ minV s) : x ∈ s := by
  have := minK_sub s s.length (Nat.le_refl _) x hx
  rwa [List.take_length] at this
/-- What is kept of a row is made of least generators. -/
theorem minK_min {s : List Int} (hs : s.Pairwise (· < ·)) (hp : ∀ x ∈ s, 1 ≤ x) : ∀ k, k ≤ s.length → Min (minK s k) := by
  intro k
  induction k with
  | zero => intro _ i h1 h2; simp [minK] at h2
  | succ k ih =>
    intro hk
    have hm := ih (by omega)
    rw [minK]
    by_cases hc : B (k = 0 ∨ ¬ Gen (s.take k) (s.getD k 0)) = true
    · rw [if_pos hc]
      rw [B_iff] at hc
      intro i h1 h2
      rw [List.length_append] at h2
      simp only [List.length_singleton] at h2
      by_cases e : i < (minK s k).length
      · rw [List.take_append_of_le_length (by omega), List.getD_eq_getElem?_getD, List.getElem?_append_left e, ← List.getD_eq_getElem?_getD]
        exact hm i h1 e
      · have e2 : i = (minK s k).length := by omega
        subst e2
        rw [List.take_append_of_le_length (Nat.le_refl _), List.take_length, List.getD_eq_getElem?_getD, List.getElem?_append_right (Nat.le_refl _), Nat.sub_self]
        simp only [List.getElem?_cons_zero, Option.getD_some]
        rw [minK_gen s k (by omega)]
        rcases hc with hc | hc
        · subst hc; simp [minK] at h1
        · exact hc
    · rw [if_neg hc, List.append_nil]; exact hm
theorem minV_min {s : List Int} (hs : s.Pairwise (· < ·)) (hp : ∀ x ∈ s, 1 ≤ x) : Min (minV s) := minK_min hs hp s.length (Nat.le_refl _)
theorem irr_atom {s l : List Int} (h : ∀ x : Nat, (x : Int) ∉ l ↔ Gen s (x : Int)) (x : Nat) : IrrN l x ↔ Atom s (x : Int) := by
  constructor
  · rintro ⟨h1, h2, h3⟩
    refine ⟨by omega, (h x).1 h2, fun y y1 y2 y3 y4 => ?_⟩
    obtain ⟨q, rfl⟩ : ∃ q : Nat, y = (q : Int) := ⟨y.toNat, by omega⟩
    have e : ((x : Int) - (q : Int)) = ((x - q : Nat) : Int) := by omega
    rw [e] at y4
    have n3 := (h q).2 y3
    have n4 := (h (x - q)).2 y4
    by_cases c : 2 * q ≤ x
    · exact n4 (h3 q (by omega) c n3)
    · have := h3 (x - q) (by omega) (by omega) n4
      rw [show x - (x - q) = q by omega] at this
      exact n3 this
  · rintro ⟨h1, h2, h3⟩
    refine ⟨by omega, (h x).2 h2, fun y y1 y2 y3 => Classical.byContradiction fun y4 => ?_⟩
    have a := h3 (y : Int) (by omega) (by omega) ((h y).1 y3)
    rw [show ((x : Int) - (y : Int)) = ((x - y : Nat) : Int) by omega] at a
    exact a ((h (x - y)).1 y4)
theorem SG.gap_iff {s : List Int} (h : SG s) (x : Nat) : (x : Int) ∉ gapsV s ↔ Gen s (x : Int) := by
  rw [gapsV_mem h]
  constructor
  · intro hh
    apply Classical.byContradiction
    intro hc
    exact hh ⟨by omega, hc⟩
  · intro hg hh; exact hh.2 hg
theorem SG.irr {s : List Int} (h : SG s) : irrL (gapsV s) 401 = s := by
  refine asc_ext (scanV_asc _ _ _) (asc_iff.1 h.2.2.1) (fun x => ?_)
  rw [irrL_mem, min_atom h.pos h.2.2.1 h.2.2.2.2.1]
  constructor
  · rintro ⟨i, _, hi, rfl⟩
    exact (irr_atom h.gap_iff i).1 hi
  · intro ha
    have hm := (min_atom h.pos h.2.2.1 h.2.2.2.2.1 x).2 ha
    have hb := h.2.1 x hm
    obtain ⟨q, rfl⟩ : ∃ q : Nat, x = (q : Int) := ⟨x.toNat, by omega⟩
    exact ⟨q, by omega, (irr_atom h.gap_iff q).2 ha, rfl⟩
theorem SG.gapL {s : List Int} (h : SG s) : GapL (gapsV s) := ⟨asc_iff.2 (gapsV_asc s), fun x hx => gapsV_range h hx⟩
theorem SG.closed {s : List Int} (h : SG s) : Closed (gapsV s) := by
  intro a b ha hb
  rw [h.gap_iff] at ha hb ⊢
  have := ha.sum hb
  rwa [← Int.natCast_add] at this
/-- FromGaps' answer. -/
noncomputable def fgV (l : List Int) : List Int × Bool := if B (GapL l ∧ Closed l ∧ SG (irrL l 401)) = true then (irrL l 401, true) else ([], false)
theorem fgV_gaps {s : List Int} (h : SG s) : fgV (gapsV s) = (s, true) := by
  unfold fgV
  rw [h.irr, if_pos (B_true ⟨h.gapL, h.closed, h⟩)]
theorem fgV_length (l : List Int) : (fgV l).1.length ≤ 401 := by
  unfold fgV
  split
  · exact irrL_length l 401
  · simp
theorem IsSort.length {l s : List Int} (h : IsSort l s) : s.length ≤ l.length := by
  have hn : s.Nodup := h.1.imp (fun hlt => by omega)
  exact hn.length_le_of_subset (fun x hx => (h.2 x).1 hx)
/-- What FromGens answers. -/
def GeOk (l : List Int) : Prop := (∀ x ∈ l, 1 ≤ x ∧ x ≤ 60) ∧ 1 ≤ l.length ∧ l.length ≤ 20
def GeV (l : List Int) (r : List Int × Bool) : Prop := (∃ s, IsSort l s ∧ GeOk l ∧ SG (minV s) ∧ r = (minV s, true)) ∨ ((¬ ∃ s, IsSort l s ∧ GeOk l ∧ SG (minV s)) ∧ r = ([], false))
theorem GeV.unique {l : List Int} {r r' : List Int × Bool} (h : GeV l r) (h' : GeV l r') : r = r' := by
  rcases h with ⟨s, h1, h2, h3, rfl⟩ | ⟨h1, rfl⟩
  · rcases h' with ⟨s', h1', h2', h3', rfl⟩ | ⟨h1', rfl⟩
    · rw [h1.unique h1']
    · exact absurd ⟨s, h1, h2, h3⟩ h1'
  · rcases h' with ⟨s', h1', h2', h3', rfl⟩ | ⟨h1', rfl⟩
    · exact absurd ⟨s', h1', h2', h3'⟩ h1
    · rfl
theorem GeV.length {l : List Int} {r : List Int × Bool} (h : GeV l r) : r.1.length ≤ 12 := by
  rcases h with ⟨s, h1, h2, h3, rfl⟩ | ⟨h1, rfl⟩
  · exact h3.1.2
  · simp
theorem GeV.sg {l : List Int} {r : List Int × Bool} (h : GeV l r) (hr : r.2 = true) : SG r.1 := by
  rcases h with ⟨s, h1, h2, h3, rfl⟩ | ⟨h1, rfl⟩
  · exact h3
  · simp at hr
/-- Of a semigroup's least generators, in whatever order, the semigroup. -/
theorem GeV.of {l : List Int} {r : List Int × Bool} (h : GeV l r) {s : List Int} (hs : SG s) (ho : GeOk l) (hg : ∀ n, Gen l n ↔ Gen s n) {t : List Int} (ht : IsSort l t) : r = (s, true) := by
  have hpt : ∀ x ∈ t, 1 ≤ x := fun x hx => (ho.1 x ((ht.2 x).1 hx)).1
  have e : minV t = s := min_unique (fun x hx => hpt x (minV_mem hx)) hs.pos (minV_asc ht.1) hs.2.2.1 (minV_min ht.1 hpt) hs.2.2.2.2.1 (fun n => by
    rw [minV_gen, ← hg]
    exact ⟨Gen.sub (fun x hx => (ht.2 x).1 hx), Gen.sub (fun x hx => (ht.2 x).2 hx)⟩)
  rcases h with ⟨s', h1, h2, h3, rfl⟩ | ⟨h1, rfl⟩
  · rw [h1.unique ht, e]
  · exact absurd ⟨t, ht, ho, by rw [e]; exact hs⟩ h1
theorem and255 (x : Int) : 0 ≤ Go.bits .and .i64 x 255 ∧ Go.bits .and .i64 x 255 ≤ 255 := by
  have h : (BitVec.ofInt IntKind.i64.bits x &&& BitVec.ofInt IntKind.i64.bits 255).toNat ≤ 255 := by
    rw [BitVec.toNat_and]
    exact Nat.le_trans Nat.and_le_right (by decide)
  have e : Go.bits .and .i64 x 255 = wrap64 (((BitVec.ofInt IntKind.i64.bits x &&& BitVec.ofInt IntKind.i64.bits 255).toNat : Nat) : Int) := by
    simp only [Go.bits]
    exact i64_w _
  rw [e, w64 (by omega) (by omega)]
  omega
/-- Sums, searched with so much fuel. -/
def genF (g : List Int) : Nat → Int → Bool
  | 0, n => n == 0
  | f + 1, n => n == 0 || g.any (fun x => decide (1 ≤ x ∧ x ≤ n) && genF g f (n - x))
theorem genF_of {g : List Int} (hp : ∀ x ∈ g, 1 ≤ x) : ∀ (f : Nat) (n : Int), n ≤ f → Gen g n → genF g f n = true := by
  intro f
  induction f with
  | zero =>
    intro n h1 h2
    have := h2.nonneg hp
    have e : n = 0 := by omega
    subst e
    rfl
  | succ f ih =>
    intro n h1 h2
    rw [genF]
    rcases h2.inv with rfl | ⟨x, hx, hg⟩
    · rfl
    · have x1 := hp x hx
      have x2 := hg.nonneg hp
      rw [Bool.or_eq_true, List.any_eq_true]
      right
      refine ⟨x, hx, ?_⟩
      rw [Bool.and_eq_true, decide_eq_true_eq]
      exact ⟨⟨x1, by omega⟩, ih (n - x) (by omega) hg⟩
theorem ends_of {g : List Int} {a : Int} (ha : a ∈ g) (ha1 : 1 ≤ a) (h : ∀ r, 0 ≤ r → r < a → ∃ w, Gen g w ∧ w ≤ 200 ∧ w % a = r) : ∀ n, 200 ≤ n → Gen g n := by
  intro n hn
  obtain ⟨w, h1, h2, h3⟩ := h (n % a) (Int.emod_nonneg _ (by omega)) (Int.emod_lt_of_pos _ (by omega))
  exact Gen.up ha ha1 h1 (by omega) h3.symm
theorem sgL_1 : SG [1] := by
  refine ⟨by simp, by simp, ?_, by decide, ?_, ?_⟩
  · rw [asc_iff]; simp
  · intro i h1 h2 hg
    simp at h2; omega
  · refine ends_of (a := 1) (by simp) (by omega) (fun r r0 r1 => ?_)
    have h3 : r = 0 := by omega
    subst h3
    · exact ⟨0, by simpa using Gen.zero (g := [1]), by omega, by decide⟩
theorem sgL_3_5 : SG [3, 5] := by
  refine ⟨by simp, by simp, ?_, by decide, ?_, ?_⟩
  · rw [asc_iff]; simp
  · intro i h1 h2 hg
    have h3 : i = 1 := by simp at h2; omega
    rcases h3 with rfl
    · have := genF_of (g := [3]) (by simp) 5 5 (by omega) (by simpa using hg)
      revert this; decide
  · refine ends_of (a := 3) (by simp) (by omega) (fun r r0 r1 => ?_)
    have h3 : r = 0 ∨ r = 1 ∨ r = 2 := by omega
    rcases h3 with rfl | rfl | rfl
    · exact ⟨0, by simpa using Gen.zero (g := [3, 5]), by omega, by decide⟩
    · exact ⟨10, by simpa using ((Gen.zero (g := [3, 5])).add (x := 5) (by simp)).add (x := 5) (by simp), by omega, by decide⟩
    · exact ⟨5, by simpa using (Gen.zero (g := [3, 5])).add (x := 5) (by simp), by omega, by decide⟩
theorem sgL_4_6_9 : SG [4, 6, 9] := by
  refine ⟨by simp, by simp, ?_, by decide, ?_, ?_⟩
  · rw [asc_iff]; simp
  · intro i h1 h2 hg
    have h3 : i = 1 ∨ i = 2 := by simp at h2; omega
    rcases h3 with rfl | rfl
    · have := genF_of (g := [4]) (by simp) 6 6 (by omega) (by simpa using hg)
      revert this; decide
    · have := genF_of (g := [4, 6]) (by simp) 9 9 (by omega) (by simpa using hg)
      revert this; decide
  · refine ends_of (a := 4) (by simp) (by omega) (fun r r0 r1 => ?_)
    have h3 : r = 0 ∨ r = 1 ∨ r = 2 ∨ r = 3 := by omega
    rcases h3 with rfl | rfl | rfl | rfl
    · exact ⟨0, by simpa using Gen.zero (g := [4, 6, 9]), by omega, by decide⟩
    · exact ⟨9, by simpa using (Gen.zero (g := [4, 6, 9])).add (x := 9) (by simp), by omega, by decide⟩
    · exact ⟨6, by simpa using (Gen.zero (g := [4, 6, 9])).add (x := 6) (by simp), by omega, by decide⟩
    · exact ⟨15, by simpa using ((Gen.zero (g := [4, 6, 9])).add (x := 6) (by simp)).add (x := 9) (by simp), by omega, by decide⟩
theorem sgL_3_4_5 : SG [3, 4, 5] := by
  refine ⟨by simp, by simp, ?_, by decide, ?_, ?_⟩
  · rw [asc_iff]; simp
  · intro i h1 h2 hg
    have h3 : i = 1 ∨ i = 2 := by simp at h2; omega
    rcases h3 with rfl | rfl
    · have := genF_of (g := [3]) (by simp) 4 4 (by omega) (by simpa using hg)
      revert this; decide
    · have := genF_of (g := [3, 4]) (by simp) 5 5 (by omega) (by simpa using hg)
      revert this; decide
  · refine ends_of (a := 3) (by simp) (by omega) (fun r r0 r1 => ?_)
    have h3 : r = 0 ∨ r = 1 ∨ r = 2 := by omega
    rcases h3 with rfl | rfl | rfl
    · exact ⟨0, by simpa using Gen.zero (g := [3, 4, 5]), by omega, by decide⟩
    · exact ⟨4, by simpa using (Gen.zero (g := [3, 4, 5])).add (x := 4) (by simp), by omega, by decide⟩
    · exact ⟨5, by simpa using (Gen.zero (g := [3, 4, 5])).add (x := 5) (by simp), by omega, by decide⟩
theorem sgL_6_9_20 : SG [6, 9, 20] := by
  refine ⟨by simp, by simp, ?_, by decide, ?_, ?_⟩
  · rw [asc_iff]; simp
  · intro i h1 h2 hg
    have h3 : i = 1 ∨ i = 2 := by simp at h2; omega
    rcases h3 with rfl | rfl
    · have := genF_of (g := [6]) (by simp) 9 9 (by omega) (by simpa using hg)
      revert this; decide
    · have := genF_of (g := [6, 9]) (by simp) 20 20 (by omega) (by simpa using hg)
      revert this; decide
  · refine ends_of (a := 6) (by simp) (by omega) (fun r r0 r1 => ?_)
    have h3 : r = 0 ∨ r = 1 ∨ r = 2 ∨ r = 3 ∨ r = 4 ∨ r = 5 := by omega
    rcases h3 with rfl | rfl | rfl | rfl | rfl | rfl
    · exact ⟨0, by simpa using Gen.zero (g := [6, 9, 20]), by omega, by decide⟩
    · exact ⟨49, by simpa using (((Gen.zero (g := [6, 9, 20])).add (x := 9) (by simp)).add (x := 20) (by simp)).add (x := 20) (by simp), by omega, by decide⟩
    · exact ⟨20, by simpa using (Gen.zero (g := [6, 9, 20])).add (x := 20) (by simp), by omega, by decide⟩
    · exact ⟨9, by simpa using (Gen.zero (g := [6, 9, 20])).add (x := 9) (by simp), by omega, by decide⟩
    · exact ⟨40, by simpa using ((Gen.zero (g := [6, 9, 20])).add (x := 20) (by simp)).add (x := 20) (by simp), by omega, by decide⟩
    · exact ⟨29, by simpa using ((Gen.zero (g := [6, 9, 20])).add (x := 9) (by simp)).add (x := 20) (by simp), by omega, by decide⟩
theorem sgL_5_7_9_11 : SG [5, 7, 9, 11] := by
  refine ⟨by simp, by simp, ?_, by decide, ?_, ?_⟩
  · rw [asc_iff]; simp
  · intro i h1 h2 hg
    have h3 : i = 1 ∨ i = 2 ∨ i = 3 := by simp at h2; omega
    rcases h3 with rfl | rfl | rfl
    · have := genF_of (g := [5]) (by simp) 7 7 (by omega) (by simpa using hg)
      revert this; decide
    · have := genF_of (g := [5, 7]) (by simp) 9 9 (by omega) (by simpa using hg)
      revert this; decide
    · have := genF_of (g := [5, 7, 9]) (by simp) 11 11 (by omega) (by simpa using hg)
      revert this; decide
  · refine ends_of (a := 5) (by simp) (by omega) (fun r r0 r1 => ?_)
    have h3 : r = 0 ∨ r = 1 ∨ r = 2 ∨ r = 3 ∨ r = 4 := by omega
    rcases h3 with rfl | rfl | rfl | rfl | rfl
    · exact ⟨0, by simpa using Gen.zero (g := [5, 7, 9, 11]), by omega, by decide⟩
    · exact ⟨11, by simpa using (Gen.zero (g := [5, 7, 9, 11])).add (x := 11) (by simp), by omega, by decide⟩
    · exact ⟨7, by simpa using (Gen.zero (g := [5, 7, 9, 11])).add (x := 7) (by simp), by omega, by decide⟩
    · exact ⟨18, by simpa using ((Gen.zero (g := [5, 7, 9, 11])).add (x := 7) (by simp)).add (x := 11) (by simp), by omega, by decide⟩
    · exact ⟨9, by simpa using (Gen.zero (g := [5, 7, 9, 11])).add (x := 9) (by simp), by omega, by decide⟩
theorem sgL_2_3 : SG [2, 3] := by
  refine ⟨by simp, by simp, ?_, by decide, ?_, ?_⟩
  · rw [asc_iff]; simp
  · intro i h1 h2 hg
    have h3 : i = 1 := by simp at h2; omega
    rcases h3 with rfl
    · have := genF_of (g := [2]) (by simp) 3 3 (by omega) (by simpa using hg)
      revert this; decide
  · refine ends_of (a := 2) (by simp) (by omega) (fun r r0 r1 => ?_)
    have h3 : r = 0 ∨ r = 1 := by omega
    rcases h3 with rfl | rfl
    · exact ⟨0, by simpa using Gen.zero (g := [2, 3]), by omega, by decide⟩
    · exact ⟨3, by simpa using (Gen.zero (g := [2, 3])).add (x := 3) (by simp), by omega, by decide⟩
theorem sgL_4_5_11 : SG [4, 5, 11] := by
  refine ⟨by simp, by simp, ?_, by decide, ?_, ?_⟩
  · rw [asc_iff]; simp
  · intro i h1 h2 hg
    have h3 : i = 1 ∨ i = 2 := by simp at h2; omega
    rcases h3 with rfl | rfl
    · have := genF_of (g := [4]) (by simp) 5 5 (by omega) (by simpa using hg)
      revert this; decide
    · have := genF_of (g := [4, 5]) (by simp) 11 11 (by omega) (by simpa using hg)
      revert this; decide
  · refine ends_of (a := 4) (by simp) (by omega) (fun r r0 r1 => ?_)
    have h3 : r = 0 ∨ r = 1 ∨ r = 2 ∨ r = 3 := by omega
    rcases h3 with rfl | rfl | rfl | rfl
    · exact ⟨0, by simpa using Gen.zero (g := [4, 5, 11]), by omega, by decide⟩
    · exact ⟨5, by simpa using (Gen.zero (g := [4, 5, 11])).add (x := 5) (by simp), by omega, by decide⟩
    · exact ⟨10, by simpa using ((Gen.zero (g := [4, 5, 11])).add (x := 5) (by simp)).add (x := 5) (by simp), by omega, by decide⟩
    · exact ⟨11, by simpa using (Gen.zero (g := [4, 5, 11])).add (x := 11) (by simp), by omega, by decide⟩
def drawn8 : List (List Int) := [[1], [3, 5], [4, 6, 9], [3, 4, 5], [6, 9, 20], [5, 7, 9, 11], [2, 3], [4, 5, 11]]
theorem drawn8_sg {g : List Int} (h : g ∈ drawn8) : SG g := by
  simp only [drawn8, List.mem_cons, List.not_mem_nil, or_false] at h
  rcases h with rfl | rfl | rfl | rfl | rfl | rfl | rfl | rfl
  · exact sgL_1
  · exact sgL_3_5
  · exact sgL_4_6_9
  · exact sgL_3_4_5
  · exact sgL_6_9_20
  · exact sgL_5_7_9_11
  · exact sgL_2_3
  · exact sgL_4_5_11
theorem ev_rounds {α : Type} {f : Nat → Option α} {r : α} (h : Ev f r) : ∃ k, f k = some r := by
  obtain ⟨K, hK⟩ := h
  exact ⟨K, hK K (Nat.le_refl _)⟩
theorem Gen.up' {g : List Int} {a w n : Int} (ha : Gen g a) (ha1 : 1 ≤ a) (hw : Gen g w) (hle : w ≤ n) (hm : n % a = w % a) : Gen g n := by
  have hd : (n - w) % a = 0 := by rw [Int.sub_emod, hm, Int.sub_self, Int.zero_emod]
  have e : a * ((n - w) / a) = n - w := Int.mul_ediv_cancel' (Int.dvd_of_emod_eq_zero hd)
  have e0 : 0 ≤ (n - w) / a := Int.ediv_nonneg (by omega) (by omega)
  have := hw.sum (ha.mul ((n - w) / a).toNat)
  rw [Int.toNat_of_nonneg e0, e] at this
  rwa [show w + (n - w) = n by omega] at this
/-- l is the row of least elements of the classes of s. -/
def ApOk (l s : List Int) : Prop := SG s ∧ (1 ≤ l.length ∧ l.length ≤ 60) ∧ Gen s (l.length : Int) ∧ IsAp s l.length l
theorem mod_lt {n : Nat} (hn : 1 ≤ n) (x : Int) : (x % (n : Int)).toNat < n ∧ (((x % (n : Int)).toNat : Nat) : Int) = x % (n : Int) := by
  have e0 := Int.emod_nonneg x (show (n : Int) ≠ 0 by omega)
  have e1 := Int.emod_lt_of_pos x (show (0 : Int) < (n : Int) by omega)
  omega
theorem ApOk.gen {l s : List Int} (h : ApOk l s) (x : Int) : Gen s x ↔ l.getD (x % (l.length : Int)).toNat 0 ≤ x := by
  obtain ⟨h1, h2, h3, h4⟩ := h
  obtain ⟨m1, m2⟩ := mod_lt h2.1 x
  have hl := h4.2 _ m1
  rw [m2] at hl
  exact ⟨fun hx => hl.2.2 x hx rfl, fun hx => Gen.up' h3 (by omega) hl.1 hx hl.2.1.symm⟩
theorem ApOk.unique {l s s' : List Int} (h : ApOk l s) (h' : ApOk l s') : s = s' :=
  min_unique h.1.pos h'.1.pos h.1.2.2.1 h'.1.2.2.1 h.1.2.2.2.2.1 h'.1.2.2.2.2.1 (fun n => by rw [h.gen, h'.gen])
theorem ApOk.at {l s : List Int} (h : ApOk l s) {r : Nat} (hr : r < l.length) : 0 ≤ l.getD r 0 ∧ l.getD r 0 < 200 + (l.length : Int) ∧ l.getD r 0 % (l.length : Int) = (r : Int) := by
  have hl := h.2.2.2.2 r hr
  have hb := hl.bound h.1 h.2.1.1 hr
  exact ⟨hb.1, hb.2, hl.2.1⟩
theorem ApOk.zero {l s : List Int} (h : ApOk l s) : l.getD 0 0 = 0 := by
  have h1 := h.2.1
  have hl := h.2.2.2.2 0 (by omega)
  have a := hl.2.2 0 .zero (by simp)
  have b := (h.at (r := 0) (by omega)).1
  omega
theorem ApOk.pos {l s : List Int} (h : ApOk l s) {r : Nat} (hr : r < l.length) (hr1 : 1 ≤ r) : 1 ≤ l.getD r 0 := by
  obtain ⟨a, b, c⟩ := h.at hr
  by_cases e : l.getD r 0 = 0
  · rw [e, Int.zero_emod] at c; omega
  · omega
theorem mem_drop1 {l : List Int} {x : Int} (h : x ∈ l.drop 1) : ∃ r, 1 ≤ r ∧ r < l.length ∧ x = l.getD r 0 := by
  obtain ⟨j, hj, e⟩ := mem_getD h
  rw [List.length_drop] at hj
  refine ⟨1 + j, by omega, by omega, ?_⟩
  rw [← e]
  simp only [List.getD_eq_getElem?_getD, List.getElem?_drop]
theorem drop1_mem {l : List Int} {r : Nat} (h1 : 1 ≤ r) (h2 : r < l.length) : l.getD r 0 ∈ l.drop 1 := by
  rw [getD_get h2, List.mem_drop_iff_getElem]
  exact ⟨r - 1, by omega, by congr 1; omega⟩
/-- The modulus and the least elements make the semigroup. -/
theorem ApOk.minimal {l s : List Int} (h : ApOk l s) {t : List Int} (ht : IsSort ((l.length : Int) :: l.drop 1) t) : minV t = s := by
  have h2 := h.2.1
  have hp : ∀ x ∈ t, 1 ≤ x := fun x hx => by
    rcases List.mem_cons.1 ((ht.2 x).1 hx) with rfl | hx
    · omega
    · obtain ⟨r, r1, r2, rfl⟩ := mem_drop1 hx
      exact h.pos r2 r1
  refine min_unique (fun x hx => hp x (minV_mem hx)) h.1.pos (minV_asc ht.1) h.1.2.2.1 (minV_min ht.1 hp) h.1.2.2.2.2.1 (fun n => ?_)
  rw [minV_gen]
  constructor
  · refine Gen.mono (fun x hx => ?_)
    rcases List.mem_cons.1 ((ht.2 x).1 hx) with rfl | hx
    · exact h.2.2.1
    · obtain ⟨r, r1, r2, rfl⟩ := mem_drop1 hx
      exact (h.2.2.2.2 r r2).1
  · intro hn
    have hle := (h.gen n).1 hn
    obtain ⟨m1, m2⟩ := mod_lt h2.1 n
    have hmod := (h.at m1).2.2
    rw [m2] at hmod
    have hN : (l.length : Int) ∈ t := (ht.2 _).2 (List.mem_cons_self ..)
    refine Gen.up hN (by omega) ?_ hle hmod.symm
    by_cases e : (n % (l.length : Int)).toNat = 0
    · rw [e, h.zero]; exact .zero
    · exact .one ((ht.2 _).2 (List.mem_cons_of_mem _ (drop1_mem (by omega) m1)))
/-- What FromApery answers. -/
def FrApV (l : List Int) (r : List Int × Bool) : Prop := (∃ s, ApOk l s ∧ r = (s, true)) ∨ ((¬ ∃ s, ApOk l s) ∧ r = ([], false))
theorem FrApV.unique {l : List Int} {r r' : List Int × Bool} (h : FrApV l r) (h' : FrApV l r') : r = r' := by
  rcases h with ⟨s, h1, rfl⟩ | ⟨h1, rfl⟩
  · rcases h' with ⟨s', h1', rfl⟩ | ⟨h1', rfl⟩
    · rw [h1.unique h1']
    · exact absurd ⟨s, h1⟩ h1'
  · rcases h' with ⟨s', h1', rfl⟩ | ⟨h1', rfl⟩
    · exact absurd ⟨s', h1'⟩ h1
    · rfl
theorem FrApV.length {l : List Int} {r : List Int × Bool} (h : FrApV l r) : r.1.length ≤ 12 := by
  rcases h with ⟨s, h1, rfl⟩ | ⟨h1, rfl⟩
  · exact h1.1.1.2
  · simp
theorem FrApV.ok {l : List Int} {r : List Int × Bool} (h : FrApV l r) (hr : r.2 = true) : ApOk l r.1 := by
  rcases h with ⟨s, h1, rfl⟩ | ⟨h1, rfl⟩
  · exact h1
  · simp at hr
theorem ApOk.apV {l s : List Int} (h : ApOk l s) {L : List Int} (hL : ApV s (l.length : Int) L) : L = l := by
  rcases hL with ⟨h1, rfl⟩ | ⟨h1, h2⟩
  · exact absurd ⟨h.1, h.2.2.1, by have := h.2.1; omega, by have := h.2.1; omega⟩ h1
  · rw [Int.toNat_natCast] at h2
    exact h2.unique h.2.2.2
theorem ApOk.of_apV {l s : List Int} (h0 : 1 ≤ l.length) (hL : ApV s (l.length : Int) l) : ApOk l s := by
  rcases hL with ⟨h1, rfl⟩ | ⟨h1, h2⟩
  · simp at h0
  · rw [Int.toNat_natCast] at h2
    exact ⟨h1.1, by omega, h1.2.1, h2⟩
/-- The gaps that a row of least elements tells. -/
def ApGaps (l gs : List Int) : Prop := ∀ x, x ∈ gs ↔ 0 ≤ x ∧ x < l.getD (x % (l.length : Int)).toNat 0
theorem ApOk.gaps {l s gs t : List Int} (h : ApOk l s) (hg : ApGaps l gs) (ht : IsSort gs t) : t = gapsV s :=
  asc_ext ht.1 (gapsV_asc s) (fun x => by
    rw [ht.2, hg, gapsV_mem h.1, h.gen]
    constructor <;> (rintro ⟨a, b⟩; exact ⟨a, by omega⟩))
/-- The row of gaps, as far as it is written: classes below j, and of class j the numbers below x. -/
def ApPart (l gs : List Int) (j x : Int) : Prop := ∀ y, y ∈ gs ↔ (0 ≤ y ∧ y < l.getD (y % (l.length : Int)).toNat 0) ∧ (y % (l.length : Int) < j ∨ (y % (l.length : Int) = j ∧ y < x))
theorem ApPart.start (l : List Int) : ApPart l [] 0 0 := by
  intro y
  simp only [List.not_mem_nil, false_iff]
  rintro ⟨⟨h1, h2⟩, h3⟩
  rcases h3 with h3 | ⟨_, h3⟩
  · have := Int.emod_nonneg y (show (l.length : Int) ≠ 0 by
      intro e
      have e0 : l = [] := List.length_eq_zero_iff.1 (by omega)
      subst e0
      simp at h2; omega)
    omega
  · omega
theorem ApPart.put {l gs : List Int} {j : Nat} {x : Int} (h : ApPart l gs j x) (hx0 : 0 ≤ x) (hxm : x % (l.length : Int) = (j : Int)) (hxl : x < l.getD j 0) : ApPart l (gs ++ [x]) j (x + (l.length : Int)) := by
  intro y
  rw [List.mem_append, List.mem_singleton, h y]
  constructor
  · rintro (⟨h1, h2⟩ | rfl)
    · refine ⟨h1, ?_⟩
      rcases h2 with h2 | ⟨h2, h3⟩
      · exact .inl h2
      · exact .inr ⟨h2, by omega⟩
    · refine ⟨⟨hx0, by rw [hxm, Int.toNat_natCast]; exact hxl⟩, .inr ⟨hxm, ?_⟩⟩
      have : 0 ≤ (l.length : Int) := by omega
      by_cases e : l.length = 0
      · rw [List.getD_eq_getElem?_getD, List.getElem?_eq_none (by omega)] at hxl
        simp at hxl; omega
      · omega
  · rintro ⟨h1, h2⟩
    rcases h2 with h2 | ⟨h2, h3⟩
    · exact .inl ⟨h1, .inl h2⟩
    · by_cases e : y < x
      · exact .inl ⟨h1, .inr ⟨h2, e⟩⟩
      · right
        have hd : (l.length : Int) ∣ (y - x) := by
          apply Int.dvd_of_emod_eq_zero
          rw [Int.sub_emod, h2, hxm, Int.sub_self, Int.zero_emod]
        by_cases e2 : y = x
        · exact e2
        · have := Int.le_of_dvd (by omega) hd
          omega
theorem ApPart.next {l gs : List Int} {j : Nat} {x : Int} (h : ApPart l gs j x) (hxl : l.getD j 0 ≤ x) : ApPart l gs ((j + 1 : Nat) : Int) ((j + 1 : Nat) : Int) := by
  intro y
  rw [h y]
  constructor
  · rintro ⟨h1, h2⟩
    refine ⟨h1, .inl ?_⟩
    rcases h2 with h2 | ⟨h2, h3⟩ <;> omega
  · rintro ⟨h1, h2⟩
    refine ⟨h1, ?_⟩
    by_cases e : y % (l.length : Int) = (j : Int)
    · right
      refine ⟨e, ?_⟩
      have := h1.2
      rw [e, Int.toNat_natCast] at this
      omega
    · left
      rcases h2 with h2 | ⟨h2, h3⟩
      · omega
      · exfalso
        have h0 := Int.emod_lt_of_pos y (show 0 < (l.length : Int) by
          apply Classical.byContradiction
          intro hc
          have e0 : l = [] := List.length_eq_zero_iff.1 (by omega)
          subst e0
          have := h1.2
          simp at this; omega)
        have h00 : y % (l.length : Int) ≤ y := by
          rcases Int.lt_or_le y (l.length : Int) with hlt | hle
          · rw [Int.emod_eq_of_lt h1.1 hlt]; omega
          · omega
        omega
theorem ApPart.done {l gs : List Int} {x : Int} (h : ApPart l gs (l.length : Int) x) (h0 : 1 ≤ l.length) : ApGaps l gs := by
  intro y
  rw [h y]
  have := Int.emod_lt_of_pos y (show 0 < (l.length : Int) by omega)
  exact ⟨fun hh => hh.1, fun hh => ⟨hh, .inl this⟩⟩
/-- The row of least elements that coordinates tell. -/
def CoAp (l A : List Int) : Prop := A.length = l.length + 1 ∧ A.getD 0 0 = 0 ∧ ∀ i : Nat, i < l.length → A.getD (i + 1) 0 = ((i : Int) + 1) + ((l.length : Int) + 1) * l.getD i 0
theorem CoAp.unique {l A A' : List Int} (h : CoAp l A) (h' : CoAp l A') : A = A' := by
  apply List.ext_getElem (h.1.trans h'.1.symm)
  intro i h1 h2
  have e : A.getD i 0 = A'.getD i 0 := by
    cases i with
    | zero => rw [h.2.1, h'.2.1]
    | succ i => rw [h.2.2 i (by have := h.1; omega), h'.2.2 i (by have := h.1; omega)]
  rwa [getD_get h1, getD_get h2] at e
def CoR (l : List Int) : Prop := (∀ x ∈ l, 1 ≤ x ∧ x ≤ 200) ∧ l.length ≤ 59
theorem SG.head_le {s : List Int} (h : SG s) {x : Int} (hx : Gen s x) (h1 : 1 ≤ x) : s.getD 0 0 ≤ x := by
  rcases hx.inv with h0 | ⟨z, hz, hg⟩
  · omega
  · have := hg.nonneg h.pos
    obtain ⟨j, hj, rfl⟩ := mem_getD hz
    by_cases e : j = 0
    · subst e; omega
    · have := asc_lt h.2.2.1 (j - 1) 0 (by omega)
      rw [show 0 + 1 + (j - 1) = j by omega] at this
      omega
theorem CoAp.head {l A s : List Int} (hA : CoAp l A) (h : ApOk A s) (hr : CoR l) : s.getD 0 0 = (l.length : Int) + 1 := by
  have hm : (A.length : Int) = (l.length : Int) + 1 := by have := hA.1; omega
  obtain ⟨hs1, hs2, hs3⟩ := h.1.head
  have hle := h.1.head_le h.2.2.1 (by omega)
  apply Classical.byContradiction
  intro hc
  have hlt : s.getD 0 0 < (A.length : Int) := by omega
  have := (h.gen _).1 (.one hs1)
  rw [Int.emod_eq_of_lt (by omega) hlt] at this
  have e := hA.2.2 ((s.getD 0 0).toNat - 1) (by omega)
  rw [show (s.getD 0 0).toNat - 1 + 1 = (s.getD 0 0).toNat by omega] at e
  rw [e] at this
  have hp := (hr.1 _ (getD_mem (l := l) (j := (s.getD 0 0).toNat - 1) (by omega))).1
  have hq : (l.length : Int) + 1 ≤ ((l.length : Int) + 1) * l.getD ((s.getD 0 0).toNat - 1) 0 := by
    have := Int.mul_le_mul_of_nonneg_left hp (show 0 ≤ (l.length : Int) + 1 by omega)
    omega
  omega
theorem CoAp.back {l A s : List Int} (hA : CoAp l A) (h : ApOk A s) (hr : CoR l) {w : List Int} (hw : CoV s w) : w = l := by
  have hh := hA.head h hr
  rcases hw with ⟨h1, _⟩ | ⟨_, L, hL, rfl⟩
  · exact absurd h.1 h1
  · rw [hh] at hL ⊢
    have e1 : ((l.length : Int) + 1).toNat = A.length := by have := hA.1; omega
    rw [e1] at hL
    obtain rfl := hL.unique h.2.2.2
    apply List.ext_getElem
    · simp [hA.1]
    · intro i i1 i2
      have e := hA.2.2 i i2
      have hi : i + 1 < L.length := by have := hA.1; omega
      rw [getD_get hi, getD_get i2] at e
      rw [List.getElem_map, List.getElem_drop]
      have e2 : L[1 + i] = L[i + 1] := by congr 1; omega
      rw [e2, e, Int.add_mul_ediv_left _ _ (by omega), Int.ediv_eq_zero_of_lt (by omega) (by omega), Int.zero_add]
/-- What FromCoordinates answers. -/
def FcV (l : List Int) (r : List Int × Bool) : Prop := (CoR l ∧ ∃ A, CoAp l A ∧ FrApV A r) ∨ (¬ CoR l ∧ r = ([], false))
theorem FcV.unique {l : List Int} {r r' : List Int × Bool} (h : FcV l r) (h' : FcV l r') : r = r' := by
  rcases h with ⟨h1, A, h2, h3⟩ | ⟨h1, rfl⟩
  · rcases h' with ⟨h1', A', h2', h3'⟩ | ⟨h1', rfl⟩
    · obtain rfl := h2.unique h2'
      exact h3.unique h3'
    · exact absurd h1 h1'
  · rcases h' with ⟨h1', A', h2', h3'⟩ | ⟨h1', rfl⟩
    · exact absurd h1' h1
    · rfl
theorem FcV.length {l : List Int} {r : List Int × Bool} (h : FcV l r) : r.1.length ≤ 12 := by
  rcases h with ⟨h1, A, h2, h3⟩ | ⟨h1, rfl⟩
  · exact h3.length
  · simp
theorem bang_getD (l : List Int) (j : Nat) : l.toArray[j]! = l.getD j 0 := by
  by_cases h : j < l.length
  · simp [h]
  · simp [h]
theorem sorted_le {l : List Int} (h : l.Pairwise (· ≤ ·)) {i j : Nat} (hij : i ≤ j) (hj : j < l.length) : l.getD i 0 ≤ l.getD j 0 := by
  rw [List.pairwise_iff_getElem] at h
  by_cases e : i = j
  · rw [e]; omega
  · have := h i j (by omega) hj (by omega)
    rw [getD_get (by omega), getD_get hj]
    exact this
theorem compact_upto {l : List Int} (h : l.Pairwise (· ≤ ·)) : ∀ m, m ≤ l.length → (Lib.compactUpTo l.toArray m).Pairwise (· < ·) ∧ ∀ x, x ∈ Lib.compactUpTo l.toArray m ↔ x ∈ l.take m := by
  intro m
  induction m with
  | zero => intro _; simp [Lib.compactUpTo]
  | succ m ih =>
    intro hm
    obtain ⟨h1, h2⟩ := ih (by omega)
    rw [Lib.compactUpTo_succ, bang_getD]
    have ht : l.take (m + 1) = l.take m ++ [l.getD m 0] := by rw [List.take_succ_eq_append_getElem (by omega), getD_get (by omega)]
    rw [ht]
    by_cases hk : Lib.keeps l.toArray m = true
    · rw [if_pos hk]
      refine ⟨?_, fun x => by rw [List.mem_append, List.mem_append, h2]⟩
      rw [List.pairwise_append]
      refine ⟨h1, by simp, fun a ha b hb => ?_⟩
      rw [List.mem_singleton.1 hb]
      have ha' := (h2 a).1 ha
      obtain ⟨i, hi, e⟩ := mem_getD ha'
      rw [List.length_take] at hi
      have ea : a = l.getD i 0 := by
        rw [← e]
        simp only [List.getD_eq_getElem?_getD, List.getElem?_take]
        rw [if_pos (by omega)]
      unfold Lib.keeps at hk
      rw [bang_getD, bang_getD] at hk
      have hle := sorted_le h (i := i) (j := m - 1) (by omega) (by omega)
      have hle2 := sorted_le h (i := m - 1) (j := m) (by omega) (by omega)
      have hne : l.getD m 0 ≠ l.getD (m - 1) 0 := by
        simp only [Bool.or_eq_true, beq_iff_eq, bne_iff_ne, decide_eq_true_eq] at hk
        rcases hk with hk | hk
        · omega
        · first | exact hk | exact fun e => hk e.symm
      omega
    · rw [if_neg hk, List.append_nil]
      refine ⟨h1, fun x => ?_⟩
      rw [h2, List.mem_append, List.mem_singleton]
      refine ⟨.inl, fun hx => ?_⟩
      rcases hx with hx | rfl
      · exact hx
      · unfold Lib.keeps at hk
        rw [bang_getD, bang_getD] at hk
        simp only [Bool.or_eq_true, beq_iff_eq, bne_iff_ne, decide_eq_true_eq, not_or, Classical.not_not] at hk
        have e : l.getD m 0 = l.getD (m - 1) 0 := by first | exact hk.2 | exact hk.2.symm
        rw [e, getD_get (by omega), List.mem_take_iff_getElem]
        exact ⟨m - 1, by omega, rfl⟩
theorem sort_compact (l : List Int) : IsSort l (Lib.compact (l.mergeSort fun x y => decide (x ≤ y))) := by
  have h : (l.mergeSort fun x y => decide (x ≤ y)).Pairwise (· ≤ ·) := by
    have := List.pairwise_mergeSort (le := fun (x y : Int) => decide (x ≤ y)) (fun a b c h1 h2 => by simp at h1 h2 ⊢; omega) (fun a b => by simp; omega) l
    exact this.imp (fun h => by simpa using h)
  obtain ⟨h1, h2⟩ := compact_upto h _ (Nat.le_refl _)
  rw [List.take_length] at h2
  unfold Lib.compact
  exact ⟨h1, fun x => (h2 x).trans (List.mergeSort_perm l _).mem_iff⟩
def FAV (g : List Int) (n v : Int) : Prop := ∃ L, ApV g n L ∧ v = if L.length = 0 then -1 else wrap64 (L.foldl max 0 - n)
theorem FAV.unique {g : List Int} {n v v' : Int} (h : FAV g n v) (h' : FAV g n v') : v = v' := by
  obtain ⟨L, a, rfl⟩ := h
  obtain ⟨L', a', rfl⟩ := h'
  rw [a.unique a']
theorem foldl_max (l : List Int) : ∀ a : Int, a ≤ l.foldl max a ∧ (∀ x ∈ l, x ≤ l.foldl max a) ∧ (l.foldl max a = a ∨ l.foldl max a ∈ l) := by
  induction l with
  | nil => intro a; simp
  | cons y l ih =>
    intro a
    obtain ⟨h1, h2, h3⟩ := ih (max a y)
    rw [List.foldl_cons]
    refine ⟨by omega, fun x hx => ?_, ?_⟩
    · rcases List.mem_cons.1 hx with rfl | hx
      · omega
      · exact h2 x hx
    · rcases h3 with h3 | h3
      · rcases Int.le_total a y with c | c
        · right
          rw [h3, show max a y = y by omega]
          exact List.mem_cons_self ..
        · left
          rw [h3]; omega
      · exact .inr (List.mem_cons_of_mem _ h3)
theorem ApOk.max {l s : List Int} (h : ApOk l s) : l.foldl Max.max 0 - (l.length : Int) = frobV s := by
  obtain ⟨h1, h2, h3⟩ := foldl_max l 0
  obtain ⟨M, hM⟩ : ∃ M, M = l.foldl Max.max 0 := ⟨_, rfl⟩
  rw [← hM] at h1 h2 h3 ⊢
  have hN := h.2.1
  have hf := frobV_range s
  have above : ∀ n : Int, M - (l.length : Int) < n → 0 ≤ n → Gen s n := fun n h4 h5 => by
    obtain ⟨m1, m2⟩ := mod_lt hN.1 n
    rw [h.gen]
    have h6 := h2 _ (getD_mem m1)
    have h7 := (h.at m1).2.2
    rw [m2] at h7
    have hd : (l.length : Int) ∣ (l.getD (n % (l.length : Int)).toNat 0 - n) := by
      apply Int.dvd_of_emod_eq_zero
      rw [Int.sub_emod, h7, Int.sub_self, Int.zero_emod]
    apply Classical.byContradiction
    intro hc
    have := Int.le_of_dvd (by omega) hd
    omega
  by_cases c : 0 ≤ M - (l.length : Int)
  · have gap : ¬ Gen s (M - (l.length : Int)) := by
      rcases h3 with h3 | h3
      · omega
      · obtain ⟨r, r1, r2⟩ := mem_getD h3
        have h7 := (h.at r1).2.2
        rw [h.gen, Int.sub_emod_right, ← r2, h7, Int.toNat_natCast, r2]
        omega
    have a : ¬ frobV s < M - (l.length : Int) := fun hh => gap (frobV_above h.1 hh c)
    have b : ¬ M - (l.length : Int) < frobV s := fun hh => frobV_gap h.1 (by omega) (above _ hh (by omega))
    omega
  · have h8 := (h.at (r := l.length - 1) (by omega))
    have h9 := h2 _ (getD_mem (l := l) (j := l.length - 1) (by omega))
    have h10 : ((l.length - 1 : Nat) : Int) ≤ l.getD (l.length - 1) 0 := by
      rcases Int.lt_or_le (l.getD (l.length - 1) 0) (l.length : Int) with hlt | hle
      · have := h8.2.2
        rw [Int.emod_eq_of_lt h8.1 hlt] at this
        omega
      · omega
    have b : ¬ 0 ≤ frobV s := fun hh => frobV_gap h.1 hh (above _ (by omega) hh)
    omega
theorem quotsV_append (n : Int) : ∀ a b : List Int, quotsV n (a ++ b) = quotsV n a + quotsV n b := by
  intro a b
  induction a with
  | nil => simp [quotsV]
  | cons x a ih => rw [List.cons_append, quotsV, quotsV, ih]; omega
theorem ApOk.sum {l s : List Int} (h : ApOk l s) : quotsV (l.length : Int) l = ((gapsV s).length : Int) := by
  have hN := h.2.1
  have row : ∀ j : Nat, j ≤ l.length → ∃ gs : List Int, gs.Nodup ∧ ApPart l gs (j : Int) (j : Int) ∧ (gs.length : Int) = quotsV (l.length : Int) (l.take j) := by
    intro j
    induction j with
    | zero => intro _; exact ⟨[], List.nodup_nil, ApPart.start l, by simp [quotsV]⟩
    | succ j ih =>
      intro hj
      obtain ⟨gs, g1, g2, g3⟩ := ih (by omega)
      obtain ⟨a1, a2, a3⟩ := h.at (r := j) (by omega)
      have hdiv := Int.emod_add_mul_ediv (l.getD j 0) (l.length : Int)
      rw [a3] at hdiv
      have hq0 : 0 ≤ l.getD j 0 / (l.length : Int) := Int.ediv_nonneg a1 (by omega)
      have col : ∀ k : Nat, (k : Int) ≤ l.getD j 0 / (l.length : Int) → ∃ gs' : List Int, gs'.Nodup ∧ ApPart l gs' (j : Int) ((j : Int) + (l.length : Int) * (k : Int)) ∧ gs'.length = gs.length + k := by
        intro k
        induction k with
        | zero => intro _; exact ⟨gs, g1, by simpa using g2, rfl⟩
        | succ k ihk =>
          intro hk
          obtain ⟨gs', p1, p2, p3⟩ := ihk (by omega)
          have hx0 : 0 ≤ (l.length : Int) * (k : Int) := Int.mul_nonneg (by omega) (by omega)
          have hxm : ((j : Int) + (l.length : Int) * (k : Int)) % (l.length : Int) = (j : Int) := by
            rw [Int.add_mul_emod_self_left, Int.emod_eq_of_lt (by omega) (by omega)]
          have hmul : (l.length : Int) * ((k : Int) + 1) ≤ (l.length : Int) * (l.getD j 0 / (l.length : Int)) := Int.mul_le_mul_of_nonneg_left (by omega) (by omega)
          have hs : (l.length : Int) * ((k : Int) + 1) = (l.length : Int) * (k : Int) + (l.length : Int) := by rw [Int.mul_add, Int.mul_one]
          refine ⟨gs' ++ [(j : Int) + (l.length : Int) * (k : Int)], ?_, ?_, by simp [p3]; omega⟩
          · rw [List.nodup_append]
            refine ⟨p1, by simp, fun a ha b hb => ?_⟩
            rw [List.mem_singleton.1 hb]
            intro e
            have := (p2 _).1 ha
            rw [e, hxm] at this
            omega
          · have := p2.put (by omega) hxm (by omega)
            rwa [show (j : Int) + (l.length : Int) * (k : Int) + (l.length : Int) = (j : Int) + (l.length : Int) * ((k + 1 : Nat) : Int) by rw [Int.natCast_succ, hs]; omega] at this
      obtain ⟨gs', p1, p2, p3⟩ := col (l.getD j 0 / (l.length : Int)).toNat (by omega)
      rw [Int.toNat_of_nonneg hq0, hdiv] at p2
      refine ⟨gs', p1, p2.next (Int.le_refl _), ?_⟩
      rw [List.take_succ_eq_append_getElem (by omega), quotsV_append, p3, quotsV, quotsV, ← getD_get (by omega), ← g3]
      omega
  obtain ⟨gs, g1, g2, g3⟩ := row l.length (Nat.le_refl _)
  rw [List.take_length] at g3
  rw [← g3]
  have hg := g2.done hN.1
  have hnd : (gapsV s).Nodup := (gapsV_asc s).imp (fun hlt => by omega)
  have hmem : ∀ x, x ∈ gs ↔ x ∈ gapsV s := fun x => by
    rw [hg, gapsV_mem h.1, h.gen]
    constructor <;> (rintro ⟨a, b⟩; exact ⟨a, by omega⟩)
  have a := g1.length_le_of_subset (fun x hx => (hmem x).1 hx)
  have b := hnd.length_le_of_subset (fun x hx => (hmem x).2 hx)
  omega
end Go.Proofs.YthednemidaegkaaM
