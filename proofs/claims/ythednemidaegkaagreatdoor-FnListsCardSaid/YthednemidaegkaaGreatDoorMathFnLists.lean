/- Plain laws of lists and numbers: what the law FnLists wants. -/
import Derived.Test.YthednemidaegkaaGreatDoorVMore
import Derived.Lib.SlicesCompact
import Derived.Lib.Join
import Derived.Laws.BytesArg
import Derived.Lib.ItoaNum
import Derived.Laws.Strings
namespace Go.Proofs.YthednemidaegkaaGreatDoorM
open Go.RowKit Go.Proofs.YthednemidaegkaaGreatDoorW.PrintWords Go.Proofs.YthednemidaegkaaGreatDoorW.PrintLast Go.Proofs.YthednemidaegkaaGreatDoorW.PrintMore
set_option linter.unusedVariables false
set_option linter.unusedSimpArgs false

theorem w64 {n : Int} (h : -9223372036854775808 ≤ n) (h' : n ≤ 9223372036854775807) : wrap64 n = n := by
  unfold wrap64
  omega
theorem wadd1 {j : Nat} (h : j < 4611686018427387904) : wrap64 ((j : Int) + 1) = ((j + 1 : Nat) : Int) := by
  rw [w64 (by omega) (by omega)]
  omega
theorem rd_nat (l : List Int) (j : Nat) : rd l (j : Int) = l.getD j 0 := by simp [rd]
theorem getD_get {l : List Int} {j : Nat} (h : j < l.length) : l.getD j 0 = l[j] := by simp [h]
theorem getD_mem {l : List Int} {j : Nat} (h : j < l.length) : l.getD j 0 ∈ l := by rw [getD_get h]; exact List.getElem_mem h
theorem mem_getD {l : List Int} {x : Int} (h : x ∈ l) : ∃ j, j < l.length ∧ l.getD j 0 = x := by
  obtain ⟨j, hj, e⟩ := List.getElem_of_mem h
  exact ⟨j, hj, by rw [getD_get hj]; exact e⟩
/-- An implication that linear arithmetic is not to see. -/
structure Box (p : Prop) : Prop where mk :: (out : p)
/-- A Prop as a Bool. -/
noncomputable def B (p : Prop) : Bool := @decide p (Classical.propDecidable p)
theorem B_iff {p : Prop} : B p = true ↔ p := by unfold B; exact @decide_eq_true_iff p (Classical.propDecidable p)
theorem B_true {p : Prop} (h : p) : B p = true := B_iff.2 h
theorem B_false {p : Prop} (h : ¬ p) : B p = false := by
  cases e : B p with
  | false => rfl
  | true => exact absurd (B_iff.1 e) h
theorem B_congr {p q : Prop} (h : p ↔ q) : B p = B q := by
  by_cases hq : q
  · rw [B_true hq, B_true (h.2 hq)]
  · rw [B_false hq, B_false (fun hp => hq (h.1 hp))]
theorem B_dec {p : Prop} [Decidable p] : decide p = B p := by
  by_cases h : p
  · rw [B_true h]; exact decide_eq_true h
  · rw [B_false h]; exact decide_eq_false h
theorem ev_pos {α : Type} {c : Prop} [Decidable c] {f g : Nat → Option α} {r : α} (h : c) (e : Ev f r) : Ev (fun k => if c then f k else g k) r := by simpa only [if_pos h] using e
theorem ev_neg {α : Type} {c : Prop} [Decidable c] {f g : Nat → Option α} {r : α} (h : ¬ c) (e : Ev g r) : Ev (fun k => if c then f k else g k) r := by simpa only [if_neg h] using e
/-- Each number is greater than the one before it. -/
def Asc (l : List Int) : Prop := ∀ j, j + 1 < l.length → l.getD j 0 < l.getD (j + 1) 0
theorem mx_abs {a : Int} (h : -1000000 ≤ a) (h' : a ≤ 1000000) : mx a (wrap64 (-a)) = (a.natAbs : Int) := by
  rw [w64 (by omega) (by omega)]
  unfold mx
  split <;> omega
/-- GcdOf's answer. -/
def gcdV (a b : Int) : Int := if (-1000000 ≤ a ∧ a ≤ 1000000) ∧ (-1000000 ≤ b ∧ b ≤ 1000000) then (Nat.gcd a.natAbs b.natAbs : Nat) else 0
def gcdLV (l : List Int) : Int := l.foldl gcdV 0
/-- What a loop over pairs a, b (1 ≤ a ≤ b ≤ n) finds first. -/
def First (viol : Nat → Nat → Prop) (n : Nat) (r : Int × Int × Bool) : Prop :=
  (r = (0, 0, false) ∧ ∀ a b, 1 ≤ a → a ≤ b → b ≤ n → ¬ viol a b) ∨
  ∃ a b : Nat, 1 ≤ a ∧ a ≤ b ∧ b ≤ n ∧ viol a b ∧ r = ((a : Int), (b : Int), true) ∧ ∀ a' b', 1 ≤ a' → a' ≤ b' → b' ≤ n → (a' < a ∨ a' = a ∧ b' < b) → ¬ viol a' b'
theorem First.unique {viol : Nat → Nat → Prop} {n : Nat} {r q : Int × Int × Bool} (h : First viol n r) (h' : First viol n q) : r = q := by
  rcases h with ⟨rfl, h⟩ | ⟨a, b, h1, h2, h3, h4, rfl, h5⟩
  · rcases h' with ⟨rfl, h'⟩ | ⟨a', b', h1', h2', h3', h4', rfl, h5'⟩
    · rfl
    · exact absurd h4' (h a' b' h1' h2' h3')
  · rcases h' with ⟨rfl, h'⟩ | ⟨a', b', h1', h2', h3', h4', rfl, h5'⟩
    · exact absurd h4 (h' a b h1 h2 h3)
    · have x : ¬ (a' < a ∨ a' = a ∧ b' < b) := fun hh => h5 a' b' h1' h2' h3' hh h4'
      have y : ¬ (a < a' ∨ a = a' ∧ b < b') := fun hh => h5' a b h1 h2 h3 hh h4
      have ea : a = a' := by omega
      have eb : b = b' := by omega
      rw [ea, eb]
/-- What clashes in a list of coordinates. -/
def ccViol (l : List Int) (a b : Nat) : Prop := (a + b < l.length + 1 ∧ l.getD (a - 1) 0 + l.getD (b - 1) 0 < l.getD (a + b - 1) 0) ∨ (a + b > l.length + 1 ∧ l.getD (a - 1) 0 + l.getD (b - 1) 0 + 1 < l.getD (a + b - (l.length + 1) - 1) 0)
def CC (l : List Int) (r : Int × Int × Bool) : Prop := (∃ j, j < l.length ∧ ¬ (1 ≤ l.getD j 0 ∧ l.getD j 0 ≤ 200) ∧ (∀ i, i < j → 1 ≤ l.getD i 0 ∧ l.getD i 0 ≤ 200) ∧ r = (((j + 1 : Nat) : Int), 0, true)) ∨ (∀ i, i < l.length → 1 ≤ l.getD i 0 ∧ l.getD i 0 ≤ 200) ∧ First (ccViol l) l.length r
theorem CC.unique {l : List Int} {r q : Int × Int × Bool} (h : CC l r) (h' : CC l q) : r = q := by
  rcases h with ⟨j, h1, h2, h3, rfl⟩ | ⟨h1, h2⟩
  · rcases h' with ⟨j', h1', h2', h3', rfl⟩ | ⟨h1', h2'⟩
    · have x : ¬ j' < j := fun hh => h2' (h3 j' hh)
      have y : ¬ j < j' := fun hh => h2 (h3' j hh)
      have e : j = j' := by omega
      rw [e]
    · exact absurd (h1' j h1) h2
  · rcases h' with ⟨j', h1', h2', h3', rfl⟩ | ⟨h1', h2'⟩
    · exact absurd (h1 j' h1') h2'
    · exact h2.unique h2'
theorem rdOf_nat {α : Type} (d : α) (l : List α) (j : Nat) : rdOf d l (j : Int) = l.getD j d := by simp [rdOf]
theorem getD_set {α : Type} (l : List α) (i j : Nat) (v d : α) : (l.set i v).getD j d = if i = j ∧ j < l.length then v else l.getD j d := by
  simp only [List.getD_eq_getElem?_getD, List.getElem?_set]
  by_cases e : i = j
  · subst e
    by_cases h : i < l.length
    · simp [h]
    · simp [h]
  · simp [e]
/-- What clashes in a list of gaps. -/
def gcViol (l : List Int) (a b : Nat) : Prop := ¬ (a : Int) ∈ l ∧ ¬ (b : Int) ∈ l ∧ ((a + b : Nat) : Int) ∈ l
def GapL (l : List Int) : Prop := Asc l ∧ ∀ x ∈ l, 1 ≤ x ∧ x ≤ 199
def GC (l : List Int) (r : Int × Int × Bool) : Prop := ((¬ GapL l ∨ l = []) ∧ r = (0, 0, false)) ∨ (GapL l ∧ l ≠ [] ∧ First (gcViol l) (l.getD (l.length - 1) 0).toNat r)
theorem GC.unique {l : List Int} {r q : Int × Int × Bool} (h : GC l r) (h' : GC l q) : r = q := by
  rcases h with ⟨h, rfl⟩ | ⟨h1, h2, h3⟩
  · rcases h' with ⟨h', rfl⟩ | ⟨h1', h2', h3'⟩
    · rfl
    · rcases h with h | h
      · exact absurd h1' h
      · exact absurd h h2'
  · rcases h' with ⟨h', rfl⟩ | ⟨h1', h2', h3'⟩
    · rcases h' with h' | h'
      · exact absurd h1 h'
      · exact absurd h' h2
    · exact h3.unique h3'
theorem asc_lt {l : List Int} (h : Asc l) : ∀ (d i : Nat), i + 1 + d < l.length → l.getD i 0 < l.getD (i + 1 + d) 0 := by
  intro d
  induction d with
  | zero => intro i hi; exact h i hi
  | succ d ih =>
    intro i hi
    have a := ih i (by omega)
    have b := h (i + 1 + d) (by omega)
    have e : i + 1 + (d + 1) = i + 1 + d + 1 := by omega
    rw [e]; omega
theorem asc_le_last {l : List Int} (h : Asc l) {x : Int} (hx : x ∈ l) : x ≤ l.getD (l.length - 1) 0 := by
  obtain ⟨j, hj, e⟩ := mem_getD hx
  subst e
  by_cases e2 : j = l.length - 1
  · rw [← e2]; omega
  · have := asc_lt h (l.length - 1 - (j + 1)) j (by omega)
    have e3 : j + 1 + (l.length - 1 - (j + 1)) = l.length - 1 := by omega
    rw [e3] at this; omega
/-- A table of marks: what is marked are the first j numbers. -/
def Marked (T : List Bool) (n : Nat) (P : Int → Prop) : Prop := T.length = n ∧ ∀ i, i < n → (T.getD i false = true ↔ P (i : Int))
theorem Marked.step {T : List Bool} {n : Nat} {P Q : Int → Prop} {x : Int} (h : Marked T n P) (hx : 0 ≤ x) (hx' : x < n) (hq : ∀ y, Q y ↔ P y ∨ y = x) : Marked (T.set x.toNat true) n Q := by
  refine ⟨by simp [h.1], fun i hi => ?_⟩
  rw [getD_set, hq, ← h.2 i hi]
  by_cases e : x.toNat = i
  · rw [if_pos ⟨e, by have := h.1; omega⟩]
    constructor
    · intro _; right; omega
    · intro _; rfl
  · rw [if_neg (fun hh => e hh.1)]
    constructor
    · intro hh; exact .inl hh
    · rintro (hh | hh)
      · exact hh
      · omega
theorem Marked.congr {T : List Bool} {n : Nat} {P Q : Int → Prop} (h : Marked T n P) (hq : ∀ i : Nat, i < n → (P (i : Int) ↔ Q (i : Int))) : Marked T n Q := ⟨h.1, fun i hi => (h.2 i hi).trans (hq i hi)⟩
theorem Marked.init {n : Nat} {P : Int → Prop} (h : ∀ y, ¬ P y) : Marked (List.replicate n false) n P := by
  refine ⟨by simp, fun i hi => ?_⟩
  simp [List.getD_eq_getElem?_getD, List.getElem?_replicate, hi, h]
/-- n is a sum of numbers of g, each any number of times. -/
inductive Gen (g : List Int) : Int → Prop
  | zero : Gen g 0
  | add {n x : Int} : Gen g n → x ∈ g → Gen g (n + x)
theorem Gen.sum {g : List Int} {m n : Int} (h : Gen g m) (h' : Gen g n) : Gen g (m + n) := by
  induction h' with
  | zero => simpa using h
  | add h' hx ih => rw [← Int.add_assoc]; exact ih.add hx
theorem Gen.one {g : List Int} {x : Int} (h : x ∈ g) : Gen g x := by
  have := (Gen.zero (g := g)).add h
  simpa using this
theorem Gen.mono {g g' : List Int} (h : ∀ x ∈ g, Gen g' x) {n : Int} (hn : Gen g n) : Gen g' n := by
  induction hn with
  | zero => exact .zero
  | add _ hx ih => exact ih.sum (h _ hx)
theorem Gen.sub {g g' : List Int} (h : ∀ x ∈ g, x ∈ g') {n : Int} (hn : Gen g n) : Gen g' n := hn.mono fun x hx => .one (h x hx)
theorem Gen.nonneg {g : List Int} (hp : ∀ x ∈ g, 1 ≤ x) {n : Int} (hn : Gen g n) : 0 ≤ n := by
  induction hn with
  | zero => omega
  | add _ hx ih => have := hp _ hx; omega
theorem Gen.inv {g : List Int} {n : Int} (hn : Gen g n) : n = 0 ∨ ∃ x ∈ g, Gen g (n - x) := by
  cases hn with
  | zero => exact .inl rfl
  | @add m x h hx => exact .inr ⟨x, hx, by rw [show m + x - x = m by omega]; exact h⟩
theorem Gen.mul {g : List Int} {x : Int} (hx : Gen g x) (j : Nat) : Gen g (x * (j : Int)) := by
  induction j with
  | zero => simpa using Gen.zero (g := g)
  | succ j ih =>
    have := ih.sum hx
    rw [show x * ((j + 1 : Nat) : Int) = x * (j : Int) + x by rw [Int.natCast_add, Int.mul_add]; simp]
    exact this
/-- The least sum in a class. -/
def LeastIn (g : List Int) (a r w : Int) : Prop := Gen g w ∧ w % a = r ∧ ∀ m, Gen g m → m % a = r → w ≤ m
theorem LeastIn.unique {g : List Int} {a r w w' : Int} (h : LeastIn g a r w) (h' : LeastIn g a r w') : w = w' := by
  have x := h.2.2 w' h'.1 h'.2.1
  have y := h'.2.2 w h.1 h.2.1
  omega
/-- A table of sums up to a greatest number. -/
def IsTable (g : List Int) (n : Nat) (T : List Bool) : Prop := Marked T n (Gen g)
theorem IsTable.at {g : List Int} {n : Nat} {T : List Bool} (h : IsTable g n T) (i : Nat) (hi : i < n) : T.getD i false = B (Gen g (i : Int)) := by
  have := h.2 i hi
  cases e : T.getD i false with
  | true => exact (B_true (this.1 e)).symm
  | false => exact (B_false (fun hh => by rw [this.2 hh] at e; cases e)).symm
theorem IsTable.unique {g : List Int} {n : Nat} {T T' : List Bool} (h : IsTable g n T) (h' : IsTable g n T') : T = T' := by
  apply List.ext_getElem (h.1.trans h'.1.symm)
  intro i h1 h2
  have a := h.at i (by have := h.1; omega)
  have b := h'.at i (by have := h.1; omega)
  rw [← b] at a
  simpa [h1, h2] using a
/-! Divisors -/
theorem gcdV_eq {a b : Int} (ha : -1000000 ≤ a ∧ a ≤ 1000000) (hb : -1000000 ≤ b ∧ b ≤ 1000000) : gcdV a b = ((Nat.gcd a.natAbs b.natAbs : Nat) : Int) := by rw [gcdV, if_pos ⟨ha, hb⟩]
theorem gcdV_range {a b : Int} (ha : 0 ≤ a ∧ a ≤ 60) (hb : 1 ≤ b ∧ b ≤ 60) : 1 ≤ gcdV a b ∧ gcdV a b ≤ 60 := by
  rw [gcdV_eq (by omega) (by omega)]
  have h1 := Nat.gcd_le_right a.natAbs (n := b.natAbs) (by omega)
  have h2 := Nat.gcd_pos_of_pos_right a.natAbs (n := b.natAbs) (by omega)
  omega
/-- The classes modulo a that are reached. -/
def Cls (g : List Int) (a : Int) (z : Int) : Prop := ∃ n, Gen g n ∧ n % a = z % a
theorem Cls.add {g : List Int} {a y z : Int} (h : Cls g a y) (h' : Cls g a z) : Cls g a (y + z) := by
  obtain ⟨n, h1, h2⟩ := h
  obtain ⟨m, h3, h4⟩ := h'
  exact ⟨n + m, h1.sum h3, by rw [Int.add_emod, h2, h4, ← Int.add_emod]⟩
theorem Cls.mul {g : List Int} {a y : Int} (h : Cls g a y) (j : Nat) : Cls g a (y * (j : Int)) := by
  obtain ⟨n, h1, h2⟩ := h
  exact ⟨n * j, h1.mul j, by rw [Int.mul_emod, h2, ← Int.mul_emod]⟩
theorem Cls.congr {g : List Int} {a y z : Int} (h : Cls g a y) (e : y % a = z % a) : Cls g a z := by
  obtain ⟨n, h1, h2⟩ := h
  exact ⟨n, h1, h2.trans e⟩
theorem Cls.neg {g : List Int} {a y : Int} (ha : 1 ≤ a) (h : Cls g a y) : Cls g a (-y) := by
  have := h.mul (a - 1).toNat
  refine this.congr ?_
  rw [Int.toNat_of_nonneg (by omega), Int.mul_sub, Int.mul_one, Int.sub_eq_add_neg, Int.mul_comm, Int.add_comm, Int.add_mul_emod_self_left]
theorem Cls.smul {g : List Int} {a y : Int} (ha : 1 ≤ a) (h : Cls g a y) (z : Int) : Cls g a (y * z) := by
  rcases Int.le_total 0 z with hz | hz
  · have := h.mul z.toNat
    rwa [Int.toNat_of_nonneg hz] at this
  · have := (h.neg ha).mul (-z).toNat
    rw [Int.toNat_of_nonneg (by omega)] at this
    rwa [Int.neg_mul_neg] at this
theorem Cls.gcd {g : List Int} {a : Int} (ha : 1 ≤ a) : ∀ (m n : Nat), Cls g a (m : Int) → Cls g a (n : Int) → Cls g a ((Nat.gcd m n : Nat) : Int) := by
  intro m
  induction m using Nat.strongRecOn with
  | _ m ih =>
    intro n hm hn
    by_cases e : m = 0
    · subst e; rwa [Nat.gcd_zero_left]
    · rw [Nat.gcd_rec]
      refine ih (n % m) (Nat.mod_lt _ (by omega)) m ?_ hm
      have := hn.add (hm.smul ha (-((n / m : Nat) : Int)))
      have e2 : ((n % m : Nat) : Int) = (n : Int) + (m : Int) * -((n / m : Nat) : Int) := by
        have := Nat.mod_add_div n m
        have h3 : ((n % m : Nat) : Int) + (m : Int) * ((n / m : Nat) : Int) = (n : Int) := by exact_mod_cast this
        rw [Int.mul_neg]; omega
      rwa [e2]
theorem Cls.gcdL {g : List Int} {a : Int} (ha : 1 ≤ a) : ∀ (l : List Int) (d : Int), (0 ≤ d ∧ d ≤ 60) → (∀ x ∈ l, 1 ≤ x ∧ x ≤ 60) → Cls g a d → (∀ x ∈ l, Cls g a x) → Cls g a (l.foldl gcdV d) := by
  intro l
  induction l with
  | nil => intro d _ _ hd _; exact hd
  | cons x l ih =>
    intro d hd hl hc hx
    have h1 := hl x (by simp)
    have hr := gcdV_range hd h1
    rw [List.foldl_cons]
    refine ih _ ⟨by omega, hr.2⟩ (fun y hy => hl y (by simp [hy])) ?_ (fun y hy => hx y (by simp [hy]))
    rw [gcdV_eq (by omega) (by omega)]
    refine Cls.gcd ha _ _ ?_ ?_
    · rwa [Int.natAbs_of_nonneg hd.1]
    · rw [Int.natAbs_of_nonneg (by omega)]; exact hx x (by simp)
theorem Cls.all {g : List Int} {a : Int} (ha : 1 ≤ a) (hl : ∀ x ∈ g, 1 ≤ x ∧ x ≤ 60) (z : Int) (hz : gcdLV g ∣ z) : Cls g a z := by
  have h := Cls.gcdL (g := g) ha g 0 (by omega) hl ⟨0, .zero, rfl⟩ (fun x hx => ⟨x, .one hx, rfl⟩)
  obtain ⟨w, rfl⟩ := hz
  exact h.smul ha w
def sumF (f : Int → Int) : List Int → Int
  | [] => 0
  | x :: l => f x + sumF f l
theorem sumF_set (f : Int → Int) : ∀ (l : List Int) (i : Nat) (v : Int), i < l.length → sumF f (l.set i v) = sumF f l - f (l.getD i 0) + f v := by
  intro l
  induction l with
  | nil => intro i v h; simp at h
  | cons x l ih =>
    intro i v h
    cases i with
    | zero => simp [sumF]; omega
    | succ i =>
      have := ih i v (by simpa using h)
      simp only [List.set_cons_succ, sumF, List.getD_cons_succ, this]; omega
theorem sumF_le (f : Int → Int) (h : ∀ x, f x ≤ 1) : ∀ l : List Int, sumF f l ≤ l.length := by
  intro l
  induction l with
  | nil => simp [sumF]
  | cons x l ih => have := h x; simp only [sumF, List.length_cons]; omega
theorem sumF_replicate (f : Int → Int) (v : Int) : ∀ n : Nat, sumF f (List.replicate n v) = n * f v := by
  intro n
  induction n with
  | zero => simp [sumF]
  | succ n ih => rw [List.replicate_succ, sumF, ih, Int.natCast_succ, Int.add_mul]; omega
def one0 (v : Int) : Int := if 0 ≤ v then 1 else 0
def cost0 (v : Int) : Int := if v < 0 then 4000 else v
def cntL (l : List Int) : Int := sumF one0 l
def costL (l : List Int) : Int := sumF cost0 l
theorem cntL_le (l : List Int) : cntL l ≤ l.length := sumF_le _ (fun x => by unfold one0; split <;> omega) l
/-- What the search keeps. -/
def LInv (g : List Int) (a : Nat) (L : List Int) : Prop :=
  L.length = a ∧ L.getD 0 0 = 0 ∧ ∀ r, r < a → 0 ≤ L.getD r 0 → Gen g (L.getD r 0) ∧ L.getD r 0 % (a : Int) = (r : Int) ∧ L.getD r 0 ≤ 60 * (cntL L - 1)
theorem LInv.bound {g : List Int} {a : Nat} {L : List Int} (h : LInv g a L) (ha : a ≤ 60) {r : Nat} (hr : r < a) : L.getD r 0 ≤ 3540 := by
  by_cases h0 : 0 ≤ L.getD r 0
  · have h1 := (h.2.2 r hr h0).2.2
    have h2 := cntL_le L
    rw [h.1] at h2
    omega
  · omega
/-- A lesser sum is noted down. -/
theorem LInv.step {g : List Int} {a : Nat} {L : List Int} (h : LInv g a L) (ha : 1 ≤ a) (ha' : a ≤ 60) {r : Nat} (hr : r < a) (h0 : 0 ≤ L.getD r 0) {x : Int} (hx : x ∈ g) (hx1 : 1 ≤ x) (hx2 : x ≤ 60)
    {t : Nat} (ht : ((r : Int) + x) % (a : Int) = (t : Int)) (hl : L.getD t 0 < 0 ∨ L.getD r 0 + x < L.getD t 0) :
    LInv g a (L.set t (L.getD r 0 + x)) ∧ costL (L.set t (L.getD r 0 + x)) < costL L ∧ t < a ∧ t ≠ r := by
  have hta : t < a := by
    have := Int.emod_lt_of_pos ((r : Int) + x) (show (0 : Int) < (a : Int) by omega)
    omega
  have hne : t ≠ r := by
    intro e
    subst e
    rcases hl with hl | hl <;> omega
  have hb := h.bound ha' hr
  have hL := h.1
  obtain ⟨g1, g2, g3⟩ := h.2.2 r hr h0
  have hc : cntL (L.set t (L.getD r 0 + x)) = cntL L - one0 (L.getD t 0) + 1 := by
    unfold cntL
    rw [sumF_set _ _ _ _ (by omega)]
    unfold one0
    rw [if_pos (show 0 ≤ L.getD r 0 + x by omega)]
  have hk : costL (L.set t (L.getD r 0 + x)) = costL L - cost0 (L.getD t 0) + (L.getD r 0 + x) := by
    unfold costL
    rw [sumF_set _ _ _ _ (by omega)]
    unfold cost0
    rw [if_neg (show ¬ L.getD r 0 + x < 0 by omega)]
  have ho : one0 (L.getD t 0) = 1 ∨ (one0 (L.getD t 0) = 0 ∧ L.getD t 0 < 0) := by
    unfold one0
    split
    · exact .inl rfl
    · exact .inr ⟨rfl, by omega⟩
  have t0 : L.getD t 0 ≠ 0 ∨ t ≠ 0 := by
    by_cases e : t = 0
    · subst e
      left
      rcases hl with hl | hl <;> omega
    · exact .inr e
  refine ⟨⟨by simp [hL], ?_, ?_⟩, ?_, hta, hne⟩
  · rw [getD_set]
    by_cases e : t = 0
    · subst e
      have := h.2.1
      rcases t0 with t0 | t0 <;> omega
    · rw [if_neg (fun hh => e hh.1)]; exact h.2.1
  · intro q hq hq0
    rw [getD_set] at hq0 ⊢
    by_cases e : t = q ∧ q < L.length
    · rw [if_pos e] at hq0 ⊢
      obtain ⟨e, _⟩ := e
      subst e
      refine ⟨g1.add hx, ?_, ?_⟩
      · rw [← ht, Int.add_emod, g2, ← Int.add_emod_emod]
        rw [Int.add_emod_emod]
        rw [Int.add_emod (r : Int) x]
        rw [Int.emod_eq_of_lt (show (0 : Int) ≤ (r : Int) by omega) (by omega)]
      · rw [hc]
        rcases ho with ho | ⟨ho, hneg⟩
        · rw [ho]
          rcases hl with hl | hl
          · unfold one0 at ho; rw [if_neg (by omega)] at ho; omega
          · have := h.2.2 t hta (by omega)
            omega
        · rw [ho]; omega
    · rw [if_neg e] at hq0 ⊢
      obtain ⟨q1, q2, q3⟩ := h.2.2 q hq hq0
      refine ⟨q1, q2, ?_⟩
      rw [hc]
      rcases ho with ho | ⟨ho, _⟩ <;> rw [ho] <;> omega
  · rw [hk]
    unfold cost0
    split
    · omega
    · rcases hl with hl | hl <;> omega
theorem LInv.init {g : List Int} {a : Nat} (ha : 1 ≤ a) : LInv g a ((List.replicate a (-1 : Int)).set 0 0) := by
  have hl : (List.replicate a (-1 : Int)).length = a := by simp
  refine ⟨by simp, by rw [getD_set, if_pos ⟨rfl, by omega⟩], fun r hr h0 => ?_⟩
  rw [getD_set] at h0 ⊢
  by_cases e : 0 = r ∧ r < (List.replicate a (-1 : Int)).length
  · rw [if_pos e]
    obtain ⟨e, _⟩ := e
    subst e
    refine ⟨.zero, by simp, ?_⟩
    unfold cntL
    rw [sumF_set _ _ _ _ (by omega), sumF_replicate]
    simp [List.getD_eq_getElem?_getD, one0, List.getElem?_replicate, show 0 < a by omega]
  · rw [if_neg e] at h0
    simp [List.getD_eq_getElem?_getD, List.getElem?_replicate, hr] at h0
theorem asc_iff {l : List Int} : Asc l ↔ l.Pairwise (· < ·) := by
  constructor
  · intro h
    rw [List.pairwise_iff_getElem]
    intro i j hi hj hij
    have := asc_lt h (j - (i + 1)) i (by omega)
    rw [show i + 1 + (j - (i + 1)) = j by omega, getD_get hi, getD_get hj] at this
    exact this
  · intro h j hj
    rw [List.pairwise_iff_getElem] at h
    have := h j (j + 1) (by omega) hj (by omega)
    rw [getD_get (by omega), getD_get hj]
    exact this
theorem asc_ext : ∀ {s t : List Int}, s.Pairwise (· < ·) → t.Pairwise (· < ·) → (∀ x, x ∈ s ↔ x ∈ t) → s = t := by
  intro s
  induction s with
  | nil =>
    intro t _ _ h
    cases t with
    | nil => rfl
    | cons y t => exact absurd ((h y).2 (by simp)) (by simp)
  | cons x s ih =>
    intro t hs ht h
    cases t with
    | nil => exact absurd ((h x).1 (by simp)) (by simp)
    | cons y t =>
      rw [List.pairwise_cons] at hs ht
      have hxy : x = y := by
        rcases List.mem_cons.1 ((h x).1 (by simp)) with e | e
        · exact e
        · rcases List.mem_cons.1 ((h y).2 (by simp)) with e2 | e2
          · exact e2.symm
          · have a := ht.1 x e
            have b := hs.1 y e2
            omega
      subst hxy
      rw [ih hs.2 ht.2 (fun z => ?_)]
      constructor
      · intro hz
        rcases List.mem_cons.1 ((h z).1 (by simp [hz])) with e | e
        · have := hs.1 z hz; omega
        · exact e
      · intro hz
        rcases List.mem_cons.1 ((h z).2 (by simp [hz])) with e | e
        · have := ht.1 z hz; omega
        · exact e
/-- s is l in ascending order, each number once. -/
def IsSort (l s : List Int) : Prop := s.Pairwise (· < ·) ∧ ∀ x, x ∈ s ↔ x ∈ l
theorem IsSort.unique {l s t : List Int} (h : IsSort l s) (h' : IsSort l t) : s = t := asc_ext h.1 h'.1 (fun x => (h.2 x).trans (h'.2 x).symm)
theorem insert_sorted {s : List Int} (hs : s.Pairwise (· < ·)) (at_ : Nat) (hat : at_ ≤ s.length) (v : Int) (hlo : 0 < at_ → s.getD (at_ - 1) 0 < v) (hhi : ∀ i, at_ ≤ i → i < s.length → v < s.getD i 0) :
    (s.take at_ ++ [v] ++ s.drop at_).Pairwise (· < ·) ∧ ∀ x, x ∈ s.take at_ ++ [v] ++ s.drop at_ ↔ x ∈ s ∨ x = v := by
  have hmem : ∀ x, x ∈ s.take at_ ++ [v] ++ s.drop at_ ↔ x ∈ s ∨ x = v := by
    intro x
    have e : x ∈ s ↔ x ∈ s.take at_ ∨ x ∈ s.drop at_ := by rw [← List.mem_append, List.take_append_drop]
    simp only [List.mem_append, List.mem_singleton]
    rw [e]
    constructor
    · rintro ((h | h) | h)
      · exact .inl (.inl h)
      · exact .inr h
      · exact .inl (.inr h)
    · rintro ((h | h) | h)
      · exact .inl (.inl h)
      · exact .inr h
      · exact .inl (.inr h)
  refine ⟨?_, hmem⟩
  have hl : ∀ a ∈ s.take at_, a < v := by
    intro a ha
    obtain ⟨i, hi, e⟩ := mem_getD ha
    rw [List.length_take] at hi
    have hv := hlo (by omega)
    have ea : a = s.getD i 0 := by
      rw [← e]
      simp only [List.getD_eq_getElem?_getD, List.getElem?_take]
      rw [if_pos (by omega)]
    rw [ea]
    by_cases e2 : i = at_ - 1
    · rw [e2]; exact hv
    · have := asc_lt (asc_iff.2 hs) (at_ - 1 - (i + 1)) i (by omega)
      rw [show i + 1 + (at_ - 1 - (i + 1)) = at_ - 1 by omega] at this
      omega
  have hr : ∀ b ∈ s.drop at_, v < b := by
    intro b hb
    obtain ⟨i, hi, e⟩ := mem_getD hb
    rw [List.length_drop] at hi
    have eb : b = s.getD (at_ + i) 0 := by
      rw [← e]
      simp only [List.getD_eq_getElem?_getD, List.getElem?_drop]
    rw [eb]
    exact hhi _ (by omega) (by omega)
  rw [List.pairwise_append, List.pairwise_append]
  refine ⟨⟨hs.sublist (List.take_sublist _ _), List.pairwise_singleton _ _, fun a ha b hb => ?_⟩, hs.sublist (List.drop_sublist _ _), fun a ha b hb => ?_⟩
  · rw [List.mem_singleton.1 hb]; exact hl a ha
  · rcases List.mem_append.1 ha with ha | ha
    · exact Int.lt_trans (hl a ha) (hr b hb)
    · rw [List.mem_singleton.1 ha]; exact hr b hb
/-- What is kept of the first k numbers of s: those that are no sums of the ones before. -/
noncomputable def minK (s : List Int) : Nat → List Int
  | 0 => []
  | k + 1 => minK s k ++ (if B (k = 0 ∨ ¬ Gen (s.take k) (s.getD k 0)) = true then [s.getD k 0] else [])
theorem minK_sub (s : List Int) : ∀ k, k ≤ s.length → ∀ x ∈ minK s k, x ∈ s.take k := by
  intro k
  induction k with
  | zero => intro _ x hx; simp [minK] at hx
  | succ k ih =>
    intro hk x hx
    rw [List.take_succ_eq_append_getElem (by omega)]
    rw [minK] at hx
    rcases List.mem_append.1 hx with hx | hx
    · exact List.mem_append.2 (.inl (ih (by omega) x hx))
    · split at hx
      · rw [List.mem_singleton.1 hx, getD_get (by omega)]; exact List.mem_append.2 (.inr (List.mem_singleton.2 rfl))
      · simp at hx
/-- What is kept makes the same sums. -/
theorem minK_gen (s : List Int) : ∀ k, k ≤ s.length → ∀ n, Gen (minK s k) n ↔ Gen (s.take k) n := by
  intro k
  induction k with
  | zero => intro _ n; simp [minK]
  | succ k ih =>
    intro hk n
    constructor
    · exact Gen.sub (minK_sub s (k + 1) hk)
    · intro hn
      refine hn.mono (fun x hx => ?_)
      rw [List.take_succ_eq_append_getElem (by omega)] at hx
      rw [minK]
      rcases List.mem_append.1 hx with hx | hx
      · have h1 := (ih (by omega) x).2 (.one hx)
        exact h1.sub (fun y hy => List.mem_append.2 (.inl hy))
      · rw [List.mem_singleton.1 hx]
        by_cases hc : B (k = 0 ∨ ¬ Gen (s.take k) (s.getD k 0)) = true
        · rw [if_pos hc]
          refine .one (List.mem_append.2 (.inr ?_))
          rw [getD_get (by omega)]; simp
        · rw [B_iff] at hc
          have h2 : Gen (s.take k) (s.getD k 0) := by
            apply Classical.byContradiction
            intro h; exact hc (.inr h)
          rw [getD_get (by omega)] at h2
          have h3 := (ih (by omega) _).2 h2
          exact h3.sub (fun y hy => List.mem_append.2 (.inl hy))
theorem minK_asc (s : List Int) (hs : s.Pairwise (· < ·)) : ∀ k, k ≤ s.length → (minK s k).Pairwise (· < ·) := by
  intro k
  induction k with
  | zero => intro _; simp [minK]
  | succ k ih =>
    intro hk
    rw [minK, List.pairwise_append]
    refine ⟨ih (by omega), by split <;> simp, fun a ha b hb => ?_⟩
    split at hb
    · rw [List.mem_singleton.1 hb]
      have ha' := minK_sub s k (by omega) a ha
      obtain ⟨i, hi, e⟩ := mem_getD ha'
      rw [List.length_take] at hi
      have ea : a = s.getD i 0 := by
        rw [← e]
        simp only [List.getD_eq_getElem?_getD, List.getElem?_take]
        rw [if_pos (by omega)]
      rw [ea]
      have := asc_lt (asc_iff.2 hs) (k - (i + 1)) i (by omega)
      rwa [show i + 1 + (k - (i + 1)) = k by omega] at this
    · simp at hb
/-- No number is a sum of the ones before it. -/
def Min (s : List Int) : Prop := ∀ i, 1 ≤ i → i < s.length → ¬ Gen (s.take i) (s.getD i 0)
noncomputable def minV (s : List Int) : List Int := minK s s.length
/-- A semigroup. -/
def SG (g : List Int) : Prop := (1 ≤ g.length ∧ g.length ≤ 12) ∧ (∀ x ∈ g, 1 ≤ x ∧ x ≤ 60) ∧ Asc g ∧ gcdLV g = 1 ∧ Min g ∧ ∀ n, 200 ≤ n → Gen g n
theorem SG.pos {g : List Int} (h : SG g) : ∀ x ∈ g, 1 ≤ x := fun x hx => (h.2.1 x hx).1
theorem SG.head {g : List Int} (h : SG g) : g.getD 0 0 ∈ g ∧ 1 ≤ g.getD 0 0 ∧ g.getD 0 0 ≤ 60 := by
  have hm : g.getD 0 0 ∈ g := getD_mem (by have := h.1; omega)
  exact ⟨hm, h.2.1 _ hm⟩
/-- The numbers from j on, d of them, for which P holds. -/
def scanV (P : Nat → Bool) : Nat → Nat → List Int
  | 0, _ => []
  | d + 1, j => (if P j = true then [(j : Int)] else []) ++ scanV P d (j + 1)
theorem scanV_mem (P : Nat → Bool) : ∀ (d j : Nat) (x : Int), x ∈ scanV P d j ↔ ∃ i : Nat, j ≤ i ∧ i < j + d ∧ P i = true ∧ x = (i : Int) := by
  intro d
  induction d with
  | zero =>
    intro j x
    simp only [scanV, List.not_mem_nil, false_iff]
    rintro ⟨i, h1, h2, _⟩
    omega
  | succ d ih =>
    intro j x
    rw [scanV, List.mem_append, ih]
    constructor
    · rintro (h | ⟨i, h1, h2, h3, h4⟩)
      · split at h
        · exact ⟨j, by omega, by omega, by assumption, List.mem_singleton.1 h⟩
        · simp at h
      · exact ⟨i, by omega, by omega, h3, h4⟩
    · rintro ⟨i, h1, h2, h3, h4⟩
      by_cases e : i = j
      · subst e
        left
        rw [if_pos h3, h4]
        exact List.mem_singleton.2 rfl
      · exact .inr ⟨i, by omega, by omega, h3, h4⟩
theorem scanV_length (P : Nat → Bool) : ∀ (d j : Nat), (scanV P d j).length ≤ d := by
  intro d
  induction d with
  | zero => intro j; simp [scanV]
  | succ d ih =>
    intro j
    rw [scanV, List.length_append]
    have := ih (j + 1)
    split <;> simp <;> omega
/-- Is it a sum? -/
noncomputable def gB (g : List Int) (n : Nat) : Bool := B (Gen g (n : Int))
theorem gB_iff {g : List Int} {n : Nat} : gB g n = true ↔ Gen g (n : Int) := B_iff
theorem nB_iff {g : List Int} {n : Nat} : (!gB g n) = true ↔ ¬ Gen g (n : Int) := by
  rw [← gB_iff]; cases gB g n <;> simp
noncomputable def gapsV (g : List Int) : List Int := scanV (fun n => !gB g n) 200 0
theorem gapsV_mem {g : List Int} (h : SG g) (x : Int) : x ∈ gapsV g ↔ 0 ≤ x ∧ ¬ Gen g x := by
  unfold gapsV
  rw [scanV_mem]
  constructor
  · rintro ⟨i, h1, h2, h3, rfl⟩
    exact ⟨by omega, nB_iff.1 h3⟩
  · rintro ⟨h1, h2⟩
    have h3 : x < 200 := by
      apply Classical.byContradiction
      intro hc
      exact h2 (h.2.2.2.2.2 x (by omega))
    refine ⟨x.toNat, by omega, by omega, ?_, by omega⟩
    rw [nB_iff, Int.toNat_of_nonneg h1]
    exact h2
theorem gapsV_length (g : List Int) : (gapsV g).length ≤ 200 := scanV_length _ _ _
/-- Least elements of the classes modulo n. -/
def IsAp (g : List Int) (n : Nat) (L : List Int) : Prop := L.length = n ∧ ∀ r, r < n → LeastIn g n r (L.getD r 0)
def ApV (g : List Int) (n : Int) (L : List Int) : Prop := (¬ (SG g ∧ Gen g n ∧ 1 ≤ n ∧ n ≤ 60) ∧ L = []) ∨ ((SG g ∧ Gen g n ∧ 1 ≤ n ∧ n ≤ 60) ∧ IsAp g n.toNat L)
theorem IsAp.unique {g : List Int} {n : Nat} {L L' : List Int} (h : IsAp g n L) (h' : IsAp g n L') : L = L' := by
  apply List.ext_getElem (h.1.trans h'.1.symm)
  intro i h1 h2
  have a := (h.2 i (by have := h.1; omega)).unique (h'.2 i (by have := h.1; omega))
  rwa [getD_get h1, getD_get h2] at a
theorem ApV.unique {g : List Int} {n : Int} {L L' : List Int} (h : ApV g n L) (h' : ApV g n L') : L = L' := by
  rcases h with ⟨h1, rfl⟩ | ⟨h1, h2⟩
  · rcases h' with ⟨_, rfl⟩ | ⟨h1', _⟩
    · rfl
    · exact absurd h1' h1
  · rcases h' with ⟨h1', _⟩ | ⟨_, h2'⟩
    · exact absurd h1 h1'
    · exact h2.unique h2'
theorem LeastIn.bound {g : List Int} (h : SG g) {n : Nat} (hn : 1 ≤ n) {r : Nat} (hr : r < n) {w : Int} (hw : LeastIn g n r w) : 0 ≤ w ∧ w < 200 + n := by
  refine ⟨hw.1.nonneg h.pos, ?_⟩
  have m0 := Int.emod_nonneg ((r : Int) - 200) (show (n : Int) ≠ 0 by omega)
  have m1 := Int.emod_lt_of_pos ((r : Int) - 200) (show (0 : Int) < (n : Int) by omega)
  have := hw.2.2 (200 + ((r : Int) - 200) % (n : Int)) (h.2.2.2.2.2 _ (by omega)) (by
    rw [Int.add_emod_emod, show 200 + ((r : Int) - 200) = (r : Int) by omega, Int.emod_eq_of_lt (by omega) (by omega)])
  omega
theorem ApV.length {g : List Int} {n : Int} {L : List Int} (h : ApV g n L) : L.length ≤ 1000000 := by
  rcases h with ⟨_, rfl⟩ | ⟨h1, h2⟩
  · simp
  · have := h2.1; omega
/-- The sum of the quotients from place j on. -/
def quotsV (n : Int) : List Int → Int
  | [] => 0
  | x :: l => x / n + quotsV n l
def QV (g : List Int) (n v : Int) : Prop := ∃ L, ApV g n L ∧ v = if L.length = 0 then -1 else quotsV n L
theorem QV.unique {g : List Int} {n v v' : Int} (h : QV g n v) (h' : QV g n v') : v = v' := by
  obtain ⟨L, a, rfl⟩ := h
  obtain ⟨L', a', rfl⟩ := h'
  rw [a.unique a']
/-- Every number of l, put on top of x, lies in the semigroup. -/
noncomputable def allB (g : List Int) (x : Int) (l : List Int) : Bool := B (∀ y ∈ l, Gen g (x + y))
noncomputable def pfL (g : List Int) : List Int := (gapsV g).filter (fun x => allB g x g)
noncomputable def pfV (g : List Int) : List Int := if B (SG g) = true then pfL g else []
theorem pfL_length (g : List Int) : (pfL g).length ≤ 200 := Nat.le_trans (List.length_filter_le ..) (gapsV_length g)
theorem pfV_length (g : List Int) : (pfV g).length ≤ 200 := by
  unfold pfV
  split
  · exact pfL_length g
  · simp
def PFV (g w : List Int) : Prop := w = pfV g
theorem PFV.unique {g w w' : List Int} (h : PFV g w) (h' : PFV g w') : w = w' := h.trans h'.symm
theorem PFV.length {g w : List Int} (h : PFV g w) : w.length ≤ 1000000 := by rw [h]; have := pfV_length g; omega
noncomputable def spL (g : List Int) : List Int := (pfV g).filter (fun x => B (Gen g (2 * x)))
def SpV (g w : List Int) : Prop := w = spL g
theorem SpV.unique {g w w' : List Int} (h : SpV g w) (h' : SpV g w') : w = w' := h.trans h'.symm
theorem SpV.length {g w : List Int} (h : SpV g w) : w.length ≤ 1000000 := by
  rw [h]; have := pfV_length g; have h2 : (spL g).length ≤ (pfV g).length := List.length_filter_le ..; omega
/-- The quotients of the least elements, the first left out. -/
def CoV (g w : List Int) : Prop := (¬ SG g ∧ w = []) ∨ (SG g ∧ ∃ L, IsAp g (g.getD 0 0).toNat L ∧ w = (L.drop 1).map (fun x => x / g.getD 0 0))
theorem CoV.unique {g w w' : List Int} (h : CoV g w) (h' : CoV g w') : w = w' := by
  rcases h with ⟨h1, rfl⟩ | ⟨h1, L, hL, rfl⟩
  · rcases h' with ⟨_, rfl⟩ | ⟨h2, _⟩
    · rfl
    · exact absurd h2 h1
  · rcases h' with ⟨h2, _⟩ | ⟨_, L', hL', rfl⟩
    · exact absurd h1 h2
    · rw [hL.unique hL']
theorem CoV.length {g w : List Int} (h : CoV g w) : w.length ≤ 1000000 := by
  rcases h with ⟨_, rfl⟩ | ⟨h1, L, hL, rfl⟩
  · simp
  · have := hL.1; have := h1.head; simp; omega
/-- The numbers outside l are closed under sums. -/
def Closed (l : List Int) : Prop := ∀ a b : Nat, (a : Int) ∉ l → (b : Int) ∉ l → ((a + b : Nat) : Int) ∉ l
/-- Outside l, and no sum of two smaller ones. -/
def IrrN (l : List Int) (x : Nat) : Prop := 1 ≤ x ∧ (x : Int) ∉ l ∧ ∀ y : Nat, 1 ≤ y → 2 * y ≤ x → (y : Int) ∉ l → ((x - y : Nat) : Int) ∈ l
noncomputable def irrB (l : List Int) (x : Nat) : Bool := B (IrrN l x)
noncomputable def irrL (l : List Int) (n : Nat) : List Int := scanV (irrB l) n 0
theorem irrL_length (l : List Int) (n : Nat) : (irrL l n).length ≤ n := scanV_length _ _ _
theorem closed_of {l : List Int} {n : Nat} (htop : ∀ x ∈ l, x ≤ (n : Int)) (h : ∀ a b, 1 ≤ a → a ≤ b → b ≤ n → ¬ gcViol l a b) : Closed l := by
  intro a b ha hb hc
  by_cases a0 : a = 0
  · subst a0
    rw [Nat.zero_add] at hc
    exact hb hc
  by_cases b0 : b = 0
  · subst b0
    exact ha hc
  have := htop _ hc
  rcases Nat.le_total a b with h1 | h1
  · exact h a b (by omega) h1 (by omega) ⟨ha, hb, hc⟩
  · exact h b a (by omega) h1 (by omega) ⟨hb, ha, by rwa [Nat.add_comm]⟩
theorem GC.closed {l : List Int} {r : Int × Int × Bool} (h : GC l r) (hg : GapL l) : r.2.2 = true ↔ ¬ Closed l := by
  rcases h with ⟨h, rfl⟩ | ⟨_, h2, h3⟩
  · have e : l = [] := by
      rcases h with h | h
      · exact absurd hg h
      · exact h
    subst e
    exact ⟨fun hh => by simp at hh, fun hh => absurd (fun a b _ _ hc => absurd hc List.not_mem_nil) hh⟩
  · have hl : 0 < l.length := List.length_pos_iff.2 h2
    have htop : ∀ x ∈ l, x ≤ (((l.getD (l.length - 1) 0).toNat : Nat) : Int) := fun x hx => by
      have h4 := asc_le_last hg.1 hx
      have h5 := hg.2 x hx
      omega
    rcases h3 with ⟨rfl, h3⟩ | ⟨a, b, h4, h5, h6, h7, rfl, _⟩
    · exact ⟨fun hh => by simp at hh, fun hh => absurd (closed_of htop h3) hh⟩
    · exact ⟨fun _ hc => hc a b h7.1 h7.2.1 h7.2.2, fun _ => rfl⟩
/-- What FromGaps answers. -/
def FGV (l : List Int) (r : List Int × Bool) : Prop := r = if B (GapL l ∧ Closed l ∧ SG (irrL l 401)) = true then (irrL l 401, true) else ([], false)
theorem FGV.unique {l : List Int} {r r' : List Int × Bool} (h : FGV l r) (h' : FGV l r') : r = r' := h.trans h'.symm
theorem FGV.length {l : List Int} {r : List Int × Bool} (h : FGV l r) : r.1.length ≤ 1000000 := by
  rw [h]
  split
  · have := irrL_length l 401
    exact Nat.le_trans this (by omega)
  · simp
/-- A sum that is no sum of two lesser ones. -/
def Atom (g : List Int) (x : Int) : Prop := 1 ≤ x ∧ Gen g x ∧ ∀ y, 1 ≤ y → y < x → Gen g y → ¬ Gen g (x - y)
theorem Atom.congr {g g' : List Int} (h : ∀ n, Gen g n ↔ Gen g' n) (x : Int) : Atom g x ↔ Atom g' x := by
  unfold Atom
  rw [h]
  exact ⟨fun ⟨a, b, c⟩ => ⟨a, b, fun y y1 y2 y3 y4 => c y y1 y2 ((h y).2 y3) ((h _).2 y4)⟩, fun ⟨a, b, c⟩ => ⟨a, b, fun y y1 y2 y3 y4 => c y y1 y2 ((h y).1 y3) ((h _).1 y4)⟩⟩
theorem gen_below {s : List Int} (hp : ∀ x ∈ s, 1 ≤ x) (ha : Asc s) {i : Nat} (hi : i < s.length) {n : Int} (hn : Gen s n) : n < s.getD i 0 → Gen (s.take i) n := by
  induction hn with
  | zero => intro _; exact .zero
  | @add m x hm hx ih =>
    intro hlt
    have h0 := hm.nonneg hp
    have hx1 := hp x hx
    refine (ih (by omega)).add ?_
    obtain ⟨j, hj, rfl⟩ := mem_getD hx
    have hji : j < i := by
      apply Classical.byContradiction
      intro hc
      by_cases e : j = i
      · subst e; omega
      · have := asc_lt ha (j - (i + 1)) i (by omega)
        rw [show i + 1 + (j - (i + 1)) = j by omega] at this
        omega
    rw [getD_get hj, List.mem_take_iff_getElem]
    exact ⟨j, by omega, rfl⟩
theorem min_atom {s : List Int} (hp : ∀ x ∈ s, 1 ≤ x) (ha : Asc s) (hm : Min s) (x : Int) : x ∈ s ↔ Atom s x := by
  constructor
  · intro hx
    refine ⟨hp x hx, .one hx, fun y y1 y2 y3 y4 => ?_⟩
    obtain ⟨i, hi, rfl⟩ := mem_getD hx
    have a := gen_below hp ha hi y3 y2
    have b := gen_below hp ha hi y4 (by omega)
    have c := a.sum b
    rw [show y + (s.getD i 0 - y) = s.getD i 0 by omega] at c
    by_cases e : i = 0
    · subst e
      rw [List.take_zero] at c
      rcases c.inv with h0 | ⟨z, hz, _⟩
      · omega
      · simp at hz
    · exact hm i (by omega) hi c
  · rintro ⟨h1, h2, h3⟩
    rcases h2.inv with h0 | ⟨z, hz, hg⟩
    · omega
    · have z1 := hp z hz
      have z2 := hg.nonneg hp
      by_cases e : x = z
      · rw [e]; exact hz
      · exact absurd hg (h3 z z1 (by omega) (.one hz))
/-- Two rows of least generators that make the same sums are the same. -/
theorem min_unique {s t : List Int} (hs : ∀ x ∈ s, 1 ≤ x) (ht : ∀ x ∈ t, 1 ≤ x) (as : Asc s) (at' : Asc t) (ms : Min s) (mt : Min t) (h : ∀ n, Gen s n ↔ Gen t n) : s = t :=
  asc_ext (asc_iff.1 as) (asc_iff.1 at') (fun x => by rw [min_atom hs as ms, min_atom ht at' mt, Atom.congr h])
theorem minV_asc {s : List Int} (hs : s.Pairwise (· < ·)) : Asc (minV s) := asc_iff.2 (minK_asc s hs s.length (Nat.le_refl _))
theorem minV_gen (s : List Int) (n : Int) : Gen (minV s) n ↔ Gen s n := by
  have := minK_gen s s.length (Nat.le_refl _) n
  rwa [List.take_length] at this
theorem minV_mem {s : List Int} {x : Int} (hx : x ∈ minV s) : x ∈ s := by
  have := minK_sub s s.length (Nat.le_refl _) x hx
  rwa [List.take_length] at this
/-- What is kept of a row is made of least generators. -/
theorem minK_min {s : List Int} (hs : s.Pairwise (· < ·)) (hp : ∀ x ∈ s, 1 ≤ x) : ∀ k, k ≤ s.length → Min (minK s k) := by
  intro k
  induction k with
  | zero => intro _ i h1 h2; simp [minK] at h2
  | succ k ih =>
    intro hk
    have hm := ih (by omega)
    rw [minK]
    by_cases hc : B (k = 0 ∨ ¬ Gen (s.take k) (s.getD k 0)) = true
    · rw [if_pos hc]
      rw [B_iff] at hc
      intro i h1 h2
      rw [List.length_append] at h2
      simp only [List.length_singleton] at h2
      by_cases e : i < (minK s k).length
      · rw [List.take_append_of_le_length (by omega), List.getD_eq_getElem?_getD, List.getElem?_append_left e, ← List.getD_eq_getElem?_getD]
        exact hm i h1 e
      · have e2 : i = (minK s k).length := by omega
        subst e2
        rw [List.take_append_of_le_length (Nat.le_refl _), List.take_length, List.getD_eq_getElem?_getD, List.getElem?_append_right (Nat.le_refl _), Nat.sub_self]
        simp only [List.getElem?_cons_zero, Option.getD_some]
        rw [minK_gen s k (by omega)]
        rcases hc with hc | hc
        · subst hc; simp [minK] at h1
        · exact hc
    · rw [if_neg hc, List.append_nil]; exact hm
theorem minV_min {s : List Int} (hs : s.Pairwise (· < ·)) (hp : ∀ x ∈ s, 1 ≤ x) : Min (minV s) := minK_min hs hp s.length (Nat.le_refl _)
theorem SG.gap_iff {s : List Int} (h : SG s) (x : Nat) : (x : Int) ∉ gapsV s ↔ Gen s (x : Int) := by
  rw [gapsV_mem h]
  constructor
  · intro hh
    apply Classical.byContradiction
    intro hc
    exact hh ⟨by omega, hc⟩
  · intro hg hh; exact hh.2 hg
theorem SG.closed {s : List Int} (h : SG s) : Closed (gapsV s) := by
  intro a b ha hb
  rw [h.gap_iff] at ha hb ⊢
  have := ha.sum hb
  rwa [← Int.natCast_add] at this
theorem IsSort.length {l s : List Int} (h : IsSort l s) : s.length ≤ l.length := by
  have hn : s.Nodup := h.1.imp (fun hlt => by omega)
  exact hn.length_le_of_subset (fun x hx => (h.2 x).1 hx)
/-- What FromGens answers. -/
def GeOk (l : List Int) : Prop := (∀ x ∈ l, 1 ≤ x ∧ x ≤ 60) ∧ 1 ≤ l.length ∧ l.length ≤ 20
def GeV (l : List Int) (r : List Int × Bool) : Prop := (∃ s, IsSort l s ∧ GeOk l ∧ SG (minV s) ∧ r = (minV s, true)) ∨ ((¬ ∃ s, IsSort l s ∧ GeOk l ∧ SG (minV s)) ∧ r = ([], false))
theorem GeV.unique {l : List Int} {r r' : List Int × Bool} (h : GeV l r) (h' : GeV l r') : r = r' := by
  rcases h with ⟨s, h1, h2, h3, rfl⟩ | ⟨h1, rfl⟩
  · rcases h' with ⟨s', h1', h2', h3', rfl⟩ | ⟨h1', rfl⟩
    · rw [h1.unique h1']
    · exact absurd ⟨s, h1, h2, h3⟩ h1'
  · rcases h' with ⟨s', h1', h2', h3', rfl⟩ | ⟨h1', rfl⟩
    · exact absurd ⟨s', h1', h2', h3'⟩ h1
    · rfl
theorem GeV.length {l : List Int} {r : List Int × Bool} (h : GeV l r) : r.1.length ≤ 12 := by
  rcases h with ⟨s, h1, h2, h3, rfl⟩ | ⟨h1, rfl⟩
  · exact h3.1.2
  · simp
/-- Of a semigroup's least generators, in whatever order, the semigroup. -/
theorem GeV.of {l : List Int} {r : List Int × Bool} (h : GeV l r) {s : List Int} (hs : SG s) (ho : GeOk l) (hg : ∀ n, Gen l n ↔ Gen s n) {t : List Int} (ht : IsSort l t) : r = (s, true) := by
  have hpt : ∀ x ∈ t, 1 ≤ x := fun x hx => (ho.1 x ((ht.2 x).1 hx)).1
  have e : minV t = s := min_unique (fun x hx => hpt x (minV_mem hx)) hs.pos (minV_asc ht.1) hs.2.2.1 (minV_min ht.1 hpt) hs.2.2.2.2.1 (fun n => by
    rw [minV_gen, ← hg]
    exact ⟨Gen.sub (fun x hx => (ht.2 x).1 hx), Gen.sub (fun x hx => (ht.2 x).2 hx)⟩)
  rcases h with ⟨s', h1, h2, h3, rfl⟩ | ⟨h1, rfl⟩
  · rw [h1.unique ht, e]
  · exact absurd ⟨t, ht, ho, by rw [e]; exact hs⟩ h1
theorem and255 (x : Int) : 0 ≤ Go.bits .and .i64 x 255 ∧ Go.bits .and .i64 x 255 ≤ 255 := by
  have h : (BitVec.ofInt IntKind.i64.bits x &&& BitVec.ofInt IntKind.i64.bits 255).toNat ≤ 255 := by
    rw [BitVec.toNat_and]
    exact Nat.le_trans Nat.and_le_right (by decide)
  have e : Go.bits .and .i64 x 255 = wrap64 (((BitVec.ofInt IntKind.i64.bits x &&& BitVec.ofInt IntKind.i64.bits 255).toNat : Nat) : Int) := by
    simp only [Go.bits]
    exact i64_w _
  rw [e, w64 (by omega) (by omega)]
  omega
theorem ev_rounds {α : Type} {f : Nat → Option α} {r : α} (h : Ev f r) : ∃ k, f k = some r := by
  obtain ⟨K, hK⟩ := h
  exact ⟨K, hK K (Nat.le_refl _)⟩
theorem bang_getD (l : List Int) (j : Nat) : l.toArray[j]! = l.getD j 0 := by
  by_cases h : j < l.length
  · simp [h]
  · simp [h]
theorem sorted_le {l : List Int} (h : l.Pairwise (· ≤ ·)) {i j : Nat} (hij : i ≤ j) (hj : j < l.length) : l.getD i 0 ≤ l.getD j 0 := by
  rw [List.pairwise_iff_getElem] at h
  by_cases e : i = j
  · rw [e]; omega
  · have := h i j (by omega) hj (by omega)
    rw [getD_get (by omega), getD_get hj]
    exact this
theorem compact_upto {l : List Int} (h : l.Pairwise (· ≤ ·)) : ∀ m, m ≤ l.length → (Lib.compactUpTo l.toArray m).Pairwise (· < ·) ∧ ∀ x, x ∈ Lib.compactUpTo l.toArray m ↔ x ∈ l.take m := by
  intro m
  induction m with
  | zero => intro _; simp [Lib.compactUpTo]
  | succ m ih =>
    intro hm
    obtain ⟨h1, h2⟩ := ih (by omega)
    rw [Lib.compactUpTo_succ, bang_getD]
    have ht : l.take (m + 1) = l.take m ++ [l.getD m 0] := by rw [List.take_succ_eq_append_getElem (by omega), getD_get (by omega)]
    rw [ht]
    by_cases hk : Lib.keeps l.toArray m = true
    · rw [if_pos hk]
      refine ⟨?_, fun x => by rw [List.mem_append, List.mem_append, h2]⟩
      rw [List.pairwise_append]
      refine ⟨h1, by simp, fun a ha b hb => ?_⟩
      rw [List.mem_singleton.1 hb]
      have ha' := (h2 a).1 ha
      obtain ⟨i, hi, e⟩ := mem_getD ha'
      rw [List.length_take] at hi
      have ea : a = l.getD i 0 := by
        rw [← e]
        simp only [List.getD_eq_getElem?_getD, List.getElem?_take]
        rw [if_pos (by omega)]
      unfold Lib.keeps at hk
      rw [bang_getD, bang_getD] at hk
      have hle := sorted_le h (i := i) (j := m - 1) (by omega) (by omega)
      have hle2 := sorted_le h (i := m - 1) (j := m) (by omega) (by omega)
      have hne : l.getD m 0 ≠ l.getD (m - 1) 0 := by
        simp only [Bool.or_eq_true, beq_iff_eq, bne_iff_ne, decide_eq_true_eq] at hk
        rcases hk with hk | hk
        · omega
        · first | exact hk | exact fun e => hk e.symm
      omega
    · rw [if_neg hk, List.append_nil]
      refine ⟨h1, fun x => ?_⟩
      rw [h2, List.mem_append, List.mem_singleton]
      refine ⟨.inl, fun hx => ?_⟩
      rcases hx with hx | rfl
      · exact hx
      · unfold Lib.keeps at hk
        rw [bang_getD, bang_getD] at hk
        simp only [Bool.or_eq_true, beq_iff_eq, bne_iff_ne, decide_eq_true_eq, not_or, Classical.not_not] at hk
        have e : l.getD m 0 = l.getD (m - 1) 0 := by first | exact hk.2 | exact hk.2.symm
        rw [e, getD_get (by omega), List.mem_take_iff_getElem]
        exact ⟨m - 1, by omega, rfl⟩
theorem sort_compact (l : List Int) : IsSort l (Lib.compact (l.mergeSort fun x y => decide (x ≤ y))) := by
  have h : (l.mergeSort fun x y => decide (x ≤ y)).Pairwise (· ≤ ·) := by
    have := List.pairwise_mergeSort (le := fun (x y : Int) => decide (x ≤ y)) (fun a b c h1 h2 => by simp at h1 h2 ⊢; omega) (fun a b => by simp; omega) l
    exact this.imp (fun h => by simpa using h)
  obtain ⟨h1, h2⟩ := compact_upto h _ (Nat.le_refl _)
  rw [List.take_length] at h2
  unfold Lib.compact
  exact ⟨h1, fun x => (h2 x).trans (List.mergeSort_perm l _).mem_iff⟩
/-- The bytes of a list, as numbers. -/
def bnums (l : List UInt8) : List Int := l.map fun b => (b.toNat : Int)
theorem bnums_append (a b : List UInt8) : bnums (a ++ b) = bnums a ++ bnums b := by simp [bnums]
theorem bnums_length (a : List UInt8) : (bnums a).length = a.length := by simp [bnums]
theorem bnums_bytes (s : ByteArray) : bytesOf s = bnums s.data.toList := rfl
theorem strOfNums_bnums (l : List UInt8) : strOfNums (bnums l) = ⟨l.toArray⟩ := by
  unfold strOfNums bnums
  congr 2
  rw [List.map_map]
  have : ((fun n : Int => UInt8.ofNat n.toNat) ∘ fun b : UInt8 => (b.toNat : Int)) = id := by
    funext b
    simp
  rw [this, List.map_id]
/-- The join of the first numbers of a list. -/
def joinK (l : List ByteArray) (by_ : ByteArray) (j : Nat) : List UInt8 := Lib.join ((l.take j).map (·.data.toList)) by_.data.toList
theorem joinK_zero (l : List ByteArray) (by_ : ByteArray) : joinK l by_ 0 = [] := rfl
theorem joinK_one {l : List ByteArray} (by_ : ByteArray) (h : 0 < l.length) : joinK l by_ 1 = (l[0]).data.toList := by
  unfold joinK
  cases l with
  | nil => simp at h
  | cons x l => simp [Lib.join_one]
theorem joinK_succ {l : List ByteArray} (by_ : ByteArray) {j : Nat} (h1 : 1 ≤ j) (hj : j < l.length) : joinK l by_ (j + 1) = joinK l by_ j ++ by_.data.toList ++ (l[j]).data.toList := by
  cases l with
  | nil => simp at hj
  | cons x l =>
    obtain ⟨i, rfl⟩ : ∃ i, j = i + 1 := ⟨j - 1, by omega⟩
    unfold joinK
    rw [List.take_succ_cons, List.take_succ_cons, List.map_cons, List.map_cons, Lib.join_cons, Lib.join_cons]
    have hi : i < l.length := by simpa using hj
    have := Lib.joinTail_take_succ by_.data.toList (l.map (·.data.toList)) i (l[i]).data.toList (by simp [hi])
    rw [← List.map_take, ← List.map_take] at this
    rw [this]
    simp
theorem joinK_length (l : List ByteArray) (by_ : ByteArray) (j : Nat) : (joinK l by_ j).length ≤ Lib.lens (l.map (·.data.toList)) + by_.size * l.length := by
  unfold joinK
  have hl : Lib.lens ((l.take j).map (·.data.toList)) ≤ Lib.lens (l.map (·.data.toList)) := by
    rw [List.map_take]
    exact Lib.lens_take_le _ _
  have e : by_.data.toList.length = by_.size := data_length _
  cases hc : l.take j with
  | nil => simp [Lib.join_nil]
  | cons x r =>
    rw [hc] at hl
    rw [List.map_cons, Lib.join_cons, List.length_append, Lib.joinTail_length, e, List.length_map]
    have h1 : (x :: r).length ≤ l.length := by rw [← hc, List.length_take]; omega
    have h2 : by_.size * r.length ≤ by_.size * l.length := Nat.mul_le_mul_left _ (by simp at h1; omega)
    simp only [Lib.lens, List.map_cons, List.sum_cons] at hl ⊢
    omega
/-- The text of a number. -/
def itoaB (x : Int) : ByteArray := ⟨(Lib.itoa x).toArray⟩
/-- The digits of a number, none of zero. -/
def digs (n : Nat) : List UInt8 := if n = 0 then [] else Lib.decDigits n
theorem digs_step {n : Nat} (h : 0 < n) : digs n = digs (n / 10) ++ [UInt8.ofNat (48 + n % 10)] := by
  unfold digs
  rw [if_neg (by omega), Lib.decDigits]
  by_cases h1 : n < 10
  · rw [dif_pos h1, if_pos (by omega), show n % 10 = n by omega]; rfl
  · rw [dif_neg h1, if_neg (by omega)]
theorem digs_length (n : Nat) (h : n ≤ 9223372036854775808) : (digs n).length ≤ 19 := by
  unfold digs
  by_cases h0 : n = 0
  · rw [if_pos h0]; simp
  · rw [if_neg h0, Lib.decDigits_length]
    have key : ∀ d m : Nat, m < 10 ^ (d + 1) → Lib.nDigits m ≤ d + 1 := by
      intro d
      induction d with
      | zero => intro m hm; rw [Lib.nDigits_small (by simpa using hm)]; omega
      | succ d ih =>
        intro m hm
        by_cases hs : m < 10
        · rw [Lib.nDigits_small hs]; omega
        · rw [Lib.nDigits_big hs]
          have := ih (m / 10) (by rw [Nat.pow_succ] at hm; omega)
          omega
    exact key 18 n (by omega)
theorem strOfNums_one (d : Nat) (h : d < 256) : strOfNums [((d : Nat) : Int)] = ⟨[UInt8.ofNat d].toArray⟩ := by simp [strOfNums]
theorem ba_append (a b : List UInt8) : (⟨a.toArray⟩ : ByteArray) ++ ⟨b.toArray⟩ = ⟨(a ++ b).toArray⟩ := by
  apply ByteArray.ext
  simp [ByteArray.data_append]
theorem ba_size (a : List UInt8) : (⟨a.toArray⟩ : ByteArray).size = a.length := by simp [ByteArray.size]
theorem itoaB_of (x : Int) (h : x ≠ 0) : itoaB x = ⟨((if x < 0 then [45] else []) ++ digs x.natAbs).toArray⟩ := by
  unfold itoaB Lib.itoa digs
  rw [if_neg (by omega : ¬ x.natAbs = 0)]
  by_cases hx : x < 0
  · rw [if_pos hx, if_pos hx]; rfl
  · rw [if_neg hx, if_neg hx, show x.natAbs = x.toNat by omega]; rfl
theorem itoaB_size (x : Int) (h : -9223372036854775808 ≤ x) (h' : x ≤ 9223372036854775807) : (itoaB x).size ≤ 20 := by
  by_cases h0 : x = 0
  · subst h0
    have : itoaB 0 = ⟨[48].toArray⟩ := by simp [itoaB, Lib.itoa, Lib.decDigits]
    rw [this, ba_size]; simp
  · rw [itoaB_of x h0, ba_size, List.length_append]
    have := digs_length x.natAbs (by omega)
    split <;> simp <;> omega
/-- The text of a list of numbers. -/
def listB (l : List Int) : ByteArray := if l = [] then ⟨#[110, 111, 110, 101]⟩ else ⟨(Lib.join ((l.map itoaB).map (·.data.toList)) [44]).toArray⟩
theorem lens_texts (l : List Int) (h : ∀ x ∈ l, -9223372036854775808 ≤ x ∧ x ≤ 9223372036854775807) : Lib.lens ((l.map itoaB).map (·.data.toList)) ≤ 20 * l.length := by
  induction l with
  | nil => simp [Lib.lens]
  | cons x l ih =>
    have h1 := itoaB_size x (h x (by simp)).1 (h x (by simp)).2
    have h2 := ih (fun y hy => h y (by simp [hy]))
    have h3 : (itoaB x).data.toList.length = (itoaB x).size := data_length _
    simp only [Lib.lens, List.map_cons, List.sum_cons, List.length_cons] at h2 ⊢
    omega
theorem wrap_range (n : Int) : -9223372036854775808 ≤ wrap64 n ∧ wrap64 n ≤ 9223372036854775807 := by
  unfold wrap64
  omega
theorem ba_len (a : ByteArray) : a.data.toList.length = a.size := data_length _
theorem ba_ext {a b : ByteArray} (h : a.data.toList = b.data.toList) : a = b := by
  apply ByteArray.ext
  exact Array.toList_inj.1 h
theorem btr (s : ByteArray) (i : Int) : 0 ≤ bt s i ∧ bt s i ≤ 255 := by
  unfold bt
  split
  · rename_i h
    have := (s[i.toNat]'h).toNat_lt
    omega
  · omega
/-- The number that the digits tell, from the j-th on. -/
def accD (t : ByteArray) : Nat → Nat → Int → Option Int
  | 0, _, acc => some acc
  | d + 1, j, acc => if bt t (j : Int) < 48 then none else if bt t (j : Int) > 57 then none else accD t d (j + 1) (wrap64 (wrap64 (10 * acc) + (bt t (j : Int) - 48) % 256))
/-- What is answered where the text is the number's own. -/
def finV (s : ByteArray) (x : Int) : Int × Bool := if (itoaB x).toList = s.toList then (x, true) else (0, false)
def negV (neg : Bool) (x : Int) : Int := if neg = true then wrap64 (-x) else x
def readT (s : ByteArray) (neg : Bool) (t : ByteArray) : Int × Bool :=
  match accD t t.size 0 0 with
  | none => (0, false)
  | some x => finV s (negV neg x)
def cutB (s : ByteArray) (neg : Bool) : ByteArray := if neg = true then s.extract 1 s.size else s
def isNeg (s : ByteArray) : Bool := decide (0 < s.size) && decide (bt s 0 = 45)
/-- The reading of a number of at most m digits. -/
def readV (s : ByteArray) (m : Int) : Int × Bool :=
  if (cutB s (isNeg s)).size < 1 ∨ ((cutB s (isNeg s)).size : Int) > m then (0, false) else readT s (isNeg s) (cutB s (isNeg s))
theorem extract_size (s : ByteArray) (i : Nat) (h : i ≤ s.size) : (s.extract i s.size).size = s.size - i := by
  rw [ByteArray.size_extract]; omega
theorem bt0 {s : ByteArray} (h : 0 < s.size) : ∃ l, s.data.toList = UInt8.ofNat (bt s 0).toNat :: l := by
  have hl := ba_len s
  cases e : s.data.toList with
  | nil => rw [e] at hl; simp at hl; omega
  | cons b l =>
    refine ⟨l, ?_⟩
    have h1 := bt_at s 0 (by simpa using h)
    have h2 : s[(0 : Int).toNat]'(by simpa using h) = b := by
      show s.data[0]'(by simpa using h) = b
      have : s.data.toList[0]'(by rw [e]; simp) = b := by simp [e]
      rw [← this, Array.getElem_toList]
    rw [← h1, h2]
    simp
theorem prefix_neg (s : ByteArray) (h : 1 ≤ s.size) : ((s.extract 0 1).toList == (⟨#[45]⟩ : ByteArray).toList) = isNeg s := by
  obtain ⟨l, e⟩ := bt0 (s := s) (by omega)
  have hb := btr s 0
  have h1 : (s.extract 0 1).toList = [UInt8.ofNat (bt s 0).toNat] := by
    rw [ByteArray.toList_eq, ByteArray.data_extract, Array.toList_extract, List.extract_eq_take_drop, e]
    rfl
  rw [h1]
  unfold isNeg
  rw [decide_eq_true (by omega : 0 < s.size), Bool.true_and]
  by_cases c : bt s 0 = 45
  · rw [decide_eq_true c, c, ByteArray.toList_eq]; rfl
  · rw [decide_eq_false c]
    have h2 : UInt8.ofNat (bt s 0).toNat ≠ 45 := fun hh => by
      have := congrArg UInt8.toNat hh
      simp at this
      omega
    have : (⟨#[45]⟩ : ByteArray).toList = [45] := by rw [ByteArray.toList_eq]
    rw [this]
    simpa using h2
/-- The parts from index i on, d bytes before the end; the open part begins at fr. -/
def splitFrom (s : ByteArray) (b : Int) : Nat → List ByteArray → Nat → Nat → List ByteArray
  | 0, out, fr, _ => out ++ [s.extract fr s.size]
  | d + 1, out, fr, i => if bt s (i : Int) = b then splitFrom s b d (out ++ [s.extract fr i]) (i + 1) (i + 1) else splitFrom s b d out fr (i + 1)
def splitV (s : ByteArray) (b : Int) : List ByteArray := splitFrom s b s.size [] 0 0
theorem splitFrom_length (s : ByteArray) (b : Int) : ∀ (d : Nat) (out : List ByteArray) (fr i : Nat), (splitFrom s b d out fr i).length ≤ out.length + d + 1 ∧ out.length + 1 ≤ (splitFrom s b d out fr i).length := by
  intro d
  induction d with
  | zero => intro out fr i; simp [splitFrom]
  | succ d ih =>
    intro out fr i
    rw [splitFrom]
    split
    · have := ih (out ++ [s.extract fr i]) (i + 1) (i + 1)
      simp at this; omega
    · have := ih out fr (i + 1); omega
theorem splitV_length (s : ByteArray) (b : Int) : (splitV s b).length ≤ s.size + 1 := by
  have := (splitFrom_length s b s.size [] 0 0).1
  simpa [splitV] using this
theorem splitFrom_small (s : ByteArray) (b : Int) : ∀ (d : Nat) (out : List ByteArray) (fr i : Nat), (∀ p ∈ out, p.size ≤ s.size) → ∀ p ∈ splitFrom s b d out fr i, p.size ≤ s.size := by
  intro d
  induction d with
  | zero =>
    intro out fr i h p hp
    rw [splitFrom, List.mem_append] at hp
    rcases hp with hp | hp
    · exact h p hp
    · rw [List.mem_singleton] at hp
      rw [hp, ByteArray.size_extract]
      omega
  | succ d ih =>
    intro out fr i h p hp
    rw [splitFrom] at hp
    split at hp
    · refine ih _ _ _ (fun q hq => ?_) p hp
      rw [List.mem_append] at hq
      rcases hq with hq | hq
      · exact h q hq
      · rw [List.mem_singleton] at hq
        rw [hq, ByteArray.size_extract]
        omega
    · exact ih _ _ _ h p hp
theorem splitV_small (s : ByteArray) (b : Int) : ∀ p ∈ splitV s b, p.size ≤ s.size := splitFrom_small s b s.size [] 0 0 (fun p hp => by cases hp)
/-- The numbers of a list of texts, from the j-th on. -/
def readFrom (ps : List ByteArray) : Nat → Nat → List Int → List Int × Bool
  | 0, _, acc => (acc, true)
  | d + 1, j, acc => if (readV (ps.getD j ByteArray.empty) 12).2 = true then readFrom ps d (j + 1) (acc ++ [(readV (ps.getD j ByteArray.empty) 12).1]) else ([], false)
theorem readFrom_length (ps : List ByteArray) : ∀ (d j : Nat) (acc : List Int), (readFrom ps d j acc).1.length ≤ acc.length + d := by
  intro d
  induction d with
  | zero => intro j acc; exact Nat.le_refl _
  | succ d ih =>
    intro j acc
    rw [readFrom]
    split
    · have := ih (j + 1) (acc ++ [(readV (ps.getD j ByteArray.empty) 12).1])
      rw [List.length_append, List.length_singleton] at this
      omega
    · simp
/-- The reading of a list of numbers. -/
def parseLV (s : ByteArray) : List Int × Bool := if s.toList = [110, 111, 110, 101] then ([], true) else readFrom (splitV s 44) (splitV s 44).length 0 []
theorem parseLV_length (s : ByteArray) : (parseLV s).1.length ≤ s.size + 1 := by
  unfold parseLV
  split
  · simp
  · have h1 := readFrom_length (splitV s 44) (splitV s 44).length 0 []
    have h2 := splitV_length s 44
    simp at h1
    omega
theorem part_small {ps : List ByteArray} {n : Nat} (h : ∀ p ∈ ps, p.size ≤ n) (j : Nat) : (ps.getD j ByteArray.empty).size ≤ n := by
  rw [List.getD_eq_getElem?_getD]
  by_cases hj : j < ps.length
  · rw [List.getElem?_eq_getElem hj]
    exact h _ (List.getElem_mem hj)
  · rw [List.getElem?_eq_none (by omega)]
    exact Nat.zero_le _
theorem bt_nat (s : ByteArray) (j : Nat) (h : j < s.size) : bt s (j : Int) = ((s.data.toList[j]'(by rw [ba_len]; exact h)).toNat : Int) := by
  rw [← bt_at s (j : Int) (by simpa using h), Array.getElem_toList]
  rfl
def valD (l : List UInt8) (acc : Int) : Int := l.foldl (fun a b => 10 * a + ((b.toNat : Int) - 48)) acc
theorem accD_val (t : ByteArray) : ∀ (d j : Nat) (acc : Int), j + d = t.size → (∀ b ∈ t.data.toList, 48 ≤ b.toNat ∧ b.toNat ≤ 57) → 0 ≤ acc → (acc + 1) * 10 ^ d ≤ 1000000000000000000 → accD t d j acc = some (valD (t.data.toList.drop j) acc) := by
  intro d
  induction d with
  | zero =>
    intro j acc h1 h2 h3 h4
    rw [accD, List.drop_eq_nil_of_le (by rw [ba_len]; omega)]
    rfl
  | succ d ih =>
    intro j acc h1 h2 h3 h4
    have hj : j < t.data.toList.length := by rw [ba_len]; omega
    have hb := h2 _ (List.getElem_mem hj)
    have hp : (1 : Int) ≤ 10 ^ d := Int.pow_pos (by omega)
    have h5 : (acc + 1) * 10 * 10 ^ d ≤ 1000000000000000000 := by rw [Int.pow_succ, Int.mul_comm (10 ^ d) 10, ← Int.mul_assoc] at h4; exact h4
    have h6 : (acc + 1) * 10 ≤ 1000000000000000000 := Int.le_trans (by have := Int.mul_le_mul_of_nonneg_left hp (show (0 : Int) ≤ (acc + 1) * 10 by omega); rw [Int.mul_one] at this; exact this) h5
    rw [accD, bt_nat t j (by omega)]
    generalize hg : (t.data.toList[j]'hj) = b at hb ⊢
    have e1 : wrap64 (10 * acc) = 10 * acc := w64 (by omega) (by omega)
    have e2 : ((b.toNat : Int) - 48) % 256 = (b.toNat : Int) - 48 := by omega
    have e3 : wrap64 (10 * acc + ((b.toNat : Int) - 48)) = 10 * acc + ((b.toNat : Int) - 48) := w64 (by omega) (by omega)
    rw [if_neg (by omega), if_neg (by omega), e1, e2, e3, ih (j + 1) _ (by omega) h2 (by omega) (by
      refine Int.le_trans (Int.mul_le_mul_of_nonneg_right ?_ (by omega)) h5
      omega), List.drop_eq_getElem_cons hj, hg]
    rfl
theorem decDigits_digits (u : Nat) : ∀ b ∈ Lib.decDigits u, 48 ≤ b.toNat ∧ b.toNat ≤ 57 := by
  induction u using Nat.strongRecOn with
  | _ u ih =>
    intro b hb
    rw [Lib.decDigits] at hb
    have one : ∀ d : Nat, d < 10 → (UInt8.ofNat (48 + d)).toNat = 48 + d := fun d hd => by
      rw [UInt8.toNat_ofNat']; omega
    split at hb
    · rw [List.mem_singleton] at hb
      rw [hb, one u (by omega)]
      omega
    · rw [List.mem_append, List.mem_singleton] at hb
      rcases hb with hb | hb
      · exact ih (u / 10) (by omega) b hb
      · rw [hb, one (u % 10) (by omega)]
        omega
theorem decDigits_val (u : Nat) : valD (Lib.decDigits u) 0 = (u : Int) := by
  induction u using Nat.strongRecOn with
  | _ u ih =>
    have one : ∀ d : Nat, d < 10 → (UInt8.ofNat (48 + d)).toNat = 48 + d := fun d hd => by
      rw [UInt8.toNat_ofNat']; omega
    rw [Lib.decDigits]
    split
    · simp only [valD, List.foldl_cons, List.foldl_nil]
      rw [one u (by omega)]
      omega
    · have h := ih (u / 10) (by omega)
      unfold valD at h ⊢
      rw [List.foldl_append, h]
      simp only [List.foldl_cons, List.foldl_nil]
      rw [one (u % 10) (by omega)]
      omega
theorem decDigits_pos (u : Nat) : 1 ≤ (Lib.decDigits u).length := by rw [Lib.decDigits_length]; exact Lib.nDigits_pos u
theorem itoa_neg (n : Int) : isNeg (itoaB n) = decide (n < 0) ∧ (cutB (itoaB n) (isNeg (itoaB n))).data.toList = Lib.decDigits n.natAbs := by
  have hz : (itoaB n).data.toList = Lib.itoa n := by simp [itoaB]
  have hs : 0 < (itoaB n).size := by
    rw [← ba_len, hz]
    unfold Lib.itoa
    split
    · simp
    · exact decDigits_pos _
  obtain ⟨l, e⟩ := bt0 hs
  have hb := btr (itoaB n) 0
  rw [hz] at e
  have ht : (UInt8.ofNat (bt (itoaB n) 0).toNat).toNat = (bt (itoaB n) 0).toNat := by rw [UInt8.toNat_ofNat']; omega
  by_cases c : n < 0
  · have e' := e
    unfold Lib.itoa at e'
    rw [if_pos c] at e'
    have e1 := (List.cons.inj e').1
    have e2 := congrArg UInt8.toNat e1
    rw [ht] at e2
    have e3 : (45 : UInt8).toNat = 45 := rfl
    rw [e3] at e2
    have e4 : isNeg (itoaB n) = true := by
      unfold isNeg
      rw [decide_eq_true hs, decide_eq_true (by omega)]
      rfl
    rw [e4, decide_eq_true c]
    refine ⟨rfl, ?_⟩
    unfold cutB
    rw [if_pos rfl, ByteArray.data_extract, Array.toList_extract, List.extract_eq_take_drop, hz]
    have hl : (Lib.itoa n).length = (itoaB n).size := by rw [← hz, ba_len]
    rw [← hl]
    unfold Lib.itoa
    rw [if_pos c]
    simp
  · have e' := e
    unfold Lib.itoa at e'
    rw [if_neg c] at e'
    have hd := decDigits_digits n.toNat (UInt8.ofNat (bt (itoaB n) 0).toNat) (by rw [e']; simp)
    rw [ht] at hd
    have e4 : isNeg (itoaB n) = false := by
      unfold isNeg
      rw [decide_eq_true hs, decide_eq_false (by omega)]
      rfl
    rw [e4, decide_eq_false c]
    refine ⟨rfl, ?_⟩
    unfold cutB
    rw [if_neg (by simp), hz]
    unfold Lib.itoa
    rw [if_neg c, show n.natAbs = n.toNat by omega]
/-- The reading of a number's own text gives the number back, if it has at most m digits. -/
theorem readV_itoa (n : Int) (m : Int) (hm : m ≤ 18) (h : -9223372036854775808 ≤ n) (h' : n ≤ 9223372036854775807) : readV (itoaB n) m = if ((Lib.decDigits n.natAbs).length : Int) ≤ m then (n, true) else (0, false) := by
  obtain ⟨h1, h2⟩ := itoa_neg n
  have h3 : (cutB (itoaB n) (isNeg (itoaB n))).size = (Lib.decDigits n.natAbs).length := by rw [← ba_len, h2]
  have h4 := decDigits_pos n.natAbs
  unfold readV
  rw [h3]
  by_cases c : ((Lib.decDigits n.natAbs).length : Int) ≤ m
  · rw [if_neg (by omega), if_pos c]
    unfold readT
    rw [h3, accD_val _ _ 0 0 (by omega) (by rw [h2]; exact decDigits_digits _) (by omega) (by
      have : (10 : Int) ^ (Lib.decDigits n.natAbs).length ≤ 10 ^ 18 := by
        have hh : (10 : Nat) ^ (Lib.decDigits n.natAbs).length ≤ 10 ^ 18 := Nat.pow_le_pow_right (by omega) (by omega)
        exact_mod_cast hh
      omega), List.drop_zero, h2, decDigits_val, h1]
    have e : negV (decide (n < 0)) ((n.natAbs : Nat) : Int) = n := by
      unfold negV
      by_cases c2 : n < 0
      · rw [decide_eq_true c2, if_pos rfl, show -((n.natAbs : Nat) : Int) = n by omega, w64 h h']
      · rw [decide_eq_false c2, if_neg (by simp)]; omega
    show finV (itoaB n) (negV (decide (n < 0)) ((n.natAbs : Nat) : Int)) = _
    rw [e]
    unfold finV
    rw [if_pos rfl]
  · rw [if_pos (.inr (by omega)), if_neg c]
theorem listB_size (l : List Int) (h : ∀ x ∈ l, -9223372036854775808 ≤ x ∧ x ≤ 9223372036854775807) : (listB l).size ≤ 21 * l.length + 4 := by
  unfold listB
  by_cases e : l = []
  · rw [if_pos e]
    show (4 : Nat) ≤ _
    omega
  · rw [if_neg e, ba_size]
    have h1 := joinK_length (l.map itoaB) ⟨#[44]⟩ (l.map itoaB).length
    unfold joinK at h1
    rw [List.take_length, List.length_map] at h1
    have h2 := lens_texts l h
    have h3 : (⟨#[44]⟩ : ByteArray).size = 1 := rfl
    have h4 : (⟨#[44]⟩ : ByteArray).data.toList = [44] := rfl
    rw [h3] at h1
    rw [h4] at h1
    omega
def dl (ps : List ByteArray) : List (List UInt8) := ps.map (·.data.toList)
theorem ext_list (s : ByteArray) (a b : Nat) (hb : b ≤ s.size) : (s.extract a b).data.toList = (s.data.toList.take b).drop a := by
  rw [ByteArray.data_extract, Array.toList_extract, List.extract_eq_take_drop, List.drop_take]
def splitL (b : UInt8) : List UInt8 → List UInt8 → List (List UInt8)
  | [], cur => [cur]
  | x :: r, cur => if x = b then cur :: splitL b r [] else splitL b r (cur ++ [x])
theorem splitFrom_list (s : ByteArray) (b : UInt8) : ∀ (d : Nat) (out : List ByteArray) (fr i : Nat), i + d = s.size → fr ≤ i → dl (splitFrom s (b.toNat : Int) d out fr i) = dl out ++ splitL b (s.data.toList.drop i) ((s.data.toList.take i).drop fr) := by
  have hl := ba_len s
  intro d
  induction d with
  | zero =>
    intro out fr i h1 h2
    obtain rfl : i = s.size := by omega
    rw [splitFrom, List.drop_eq_nil_of_le (by omega), splitL]
    unfold dl
    rw [List.map_append, List.map_cons, List.map_nil, ext_list s fr s.size (by omega)]
  | succ d ih =>
    intro out fr i h1 h2
    have hi : i < s.data.toList.length := by omega
    have hb := bt_nat s i (by omega)
    rw [splitFrom, List.drop_eq_getElem_cons hi, splitL]
    have hti : s.data.toList.take (i + 1) = s.data.toList.take i ++ [s.data.toList[i]] := (List.take_append_getElem hi).symm
    by_cases c : s.data.toList[i] = b
    · rw [if_pos c, if_pos (by rw [hb, c]), ih _ _ _ (by omega) (by omega)]
      unfold dl
      rw [List.map_append, List.map_cons, List.map_nil, ext_list s fr i (by omega), List.drop_eq_nil_of_le (as := s.data.toList.take (i + 1)) (by rw [List.length_take]; omega), List.append_assoc]
      rfl
    · rw [if_neg c, if_neg (by rw [hb]; intro h; exact c (UInt8.toNat_inj.1 (by omega))), ih _ _ _ (by omega) (by omega), hti, List.drop_append_of_le_length (by rw [List.length_take]; omega)]
theorem splitL_skip (b : UInt8) : ∀ (p rest cur : List UInt8), (∀ x ∈ p, x ≠ b) → splitL b (p ++ rest) cur = splitL b rest (cur ++ p) := by
  intro p
  induction p with
  | nil => intro rest cur h; rw [List.nil_append, List.append_nil]
  | cons x p ih =>
    intro rest cur h
    rw [List.cons_append, splitL, if_neg (h x (by simp)), ih rest _ (fun y hy => h y (by simp [hy])), List.append_assoc]
    rfl
theorem splitL_join (b : UInt8) : ∀ (r : List (List UInt8)) (p cur : List UInt8), (∀ x ∈ p, x ≠ b) → (∀ q ∈ r, ∀ x ∈ q, x ≠ b) → splitL b (p ++ Lib.joinTail [b] r) cur = (cur ++ p) :: r := by
  intro r
  induction r with
  | nil =>
    intro p cur h1 h2
    rw [splitL_skip b p _ cur h1]
    rfl
  | cons q r ih =>
    intro p cur h1 h2
    have e : Lib.joinTail [b] (q :: r) = b :: (q ++ Lib.joinTail [b] r) := by simp [Lib.joinTail]
    rw [splitL_skip b p _ cur h1, e, splitL, if_pos rfl, ih q [] (h2 q (by simp)) (fun z hz => h2 z (by simp [hz])), List.nil_append]
theorem dl_inj : ∀ {a b : List ByteArray}, dl a = dl b → a = b := by
  intro a
  induction a with
  | nil => intro b h; cases b with
    | nil => rfl
    | cons y b => cases h
  | cons x a ih => intro b h; cases b with
    | nil => cases h
    | cons y b =>
      unfold dl at h
      rw [List.map_cons, List.map_cons] at h
      have h1 := (List.cons.inj h).1
      have h2 := (List.cons.inj h).2
      rw [ba_ext h1, ih h2]
theorem splitV_of_join (ps : List ByteArray) (hn : ps ≠ []) (h : ∀ p ∈ ps, ∀ x ∈ p.data.toList, x ≠ (44 : UInt8)) : splitV ⟨(Lib.join (dl ps) [44]).toArray⟩ 44 = ps := by
  apply dl_inj
  have h0 := splitFrom_list (⟨(Lib.join (dl ps) [44]).toArray⟩ : ByteArray) 44 (⟨(Lib.join (dl ps) [44]).toArray⟩ : ByteArray).size [] 0 0 (by omega) (by omega)
  unfold splitV
  refine h0.trans ?_
  cases ps with
  | nil => exact absurd rfl hn
  | cons p r =>
    have e : (⟨(Lib.join (dl (p :: r)) [44]).toArray⟩ : ByteArray).data.toList = p.data.toList ++ Lib.joinTail [44] (dl r) := by
      show (Lib.join (dl (p :: r)) [44]) = _
      unfold dl
      rw [List.map_cons, Lib.join_cons]
    rw [e, List.drop_zero, List.take_zero, List.drop_nil, splitL_join 44 (dl r) p.data.toList [] (h p (by simp)) (fun q hq => by
      unfold dl at hq
      rw [List.mem_map] at hq
      obtain ⟨z, hz, rfl⟩ := hq
      exact h z (by simp [hz]))]
    rfl
theorem itoa_bytes (x : Int) : ∀ b ∈ (itoaB x).data.toList, b.toNat = 45 ∨ (48 ≤ b.toNat ∧ b.toNat ≤ 57) := by
  have hz : (itoaB x).data.toList = Lib.itoa x := rfl
  rw [hz]
  unfold Lib.itoa
  by_cases c : x < 0
  · rw [if_pos c]
    intro b hb
    rw [List.mem_cons] at hb
    rcases hb with rfl | hb
    · exact .inl rfl
    · exact .inr (decDigits_digits _ b hb)
  · rw [if_neg c]
    exact fun b hb => .inr (decDigits_digits _ b hb)
theorem join_mem {ps : List (List UInt8)} {sep : List UInt8} {b : UInt8} (h : b ∈ Lib.join ps sep) : b ∈ sep ∨ ∃ p ∈ ps, b ∈ p := by
  cases ps with
  | nil => cases h
  | cons p r =>
    rw [Lib.join_cons, List.mem_append] at h
    rcases h with h | h
    · exact .inr ⟨p, by simp, h⟩
    · unfold Lib.joinTail at h
      rw [List.mem_flatten] at h
      obtain ⟨q, hq, hb⟩ := h
      rw [List.mem_map] at hq
      obtain ⟨z, hz, rfl⟩ := hq
      rw [List.mem_append] at hb
      rcases hb with hb | hb
      · exact .inl hb
      · exact .inr ⟨z, by simp [hz], hb⟩
theorem nDigits_two {u : Nat} (h : u < 100) : Lib.nDigits u ≤ 2 := by
  by_cases h1 : u < 10
  · rw [Lib.nDigits_small h1]; omega
  · rw [Lib.nDigits_big h1, Lib.nDigits_small (by omega)]; omega
theorem readFrom_texts (g : List Int) (h : ∀ x ∈ g, readV (itoaB x) 12 = (x, true)) : ∀ (d j : Nat) (acc : List Int), j + d = g.length → readFrom (g.map itoaB) d j acc = (acc ++ g.drop j, true) := by
  intro d
  induction d with
  | zero => intro j acc h1; rw [readFrom, List.drop_eq_nil_of_le (by omega), List.append_nil]
  | succ d ih =>
    intro j acc h1
    have hj : j < g.length := by omega
    have e : (g.map itoaB).getD j ByteArray.empty = itoaB g[j] := by simp [List.getD_eq_getElem?_getD, hj]
    rw [readFrom, e, h _ (List.getElem_mem hj), if_pos rfl, ih (j + 1) _ (by omega), List.drop_eq_getElem_cons hj, List.append_assoc]
    rfl
theorem parseLV_none : parseLV (listB []) = ([], true) := by
  have e : (listB []).toList = [110, 111, 110, 101] := by
    unfold listB
    rw [if_pos rfl, ByteArray.toList_eq]
  unfold parseLV
  rw [if_pos e]
theorem parseLV_list {g : List Int} (h : ∀ x ∈ g, -60 ≤ x ∧ x ≤ 60) : parseLV (listB g) = (g, true) := by
  by_cases hn : g = []
  · rw [hn]
    exact parseLV_none
  have hr : ∀ x ∈ g, readV (itoaB x) 12 = (x, true) := fun x hx => by
    have := h x hx
    rw [readV_itoa x 12 (by omega) (by omega) (by omega), if_pos]
    rw [Lib.decDigits_length]
    have := nDigits_two (u := x.natAbs) (by omega)
    omega
  have hl : listB g = ⟨(Lib.join (dl (g.map itoaB)) [44]).toArray⟩ := by
    unfold listB dl
    rw [if_neg hn]
  have hs : splitV (listB g) 44 = g.map itoaB := by
    rw [hl]
    refine splitV_of_join _ (by simpa using hn) ?_
    intro p hp x hx
    rw [List.mem_map] at hp
    obtain ⟨y, hy, rfl⟩ := hp
    have := itoa_bytes y x hx
    intro e
    rw [e] at this
    exact absurd this (by decide)
  unfold parseLV
  rw [if_neg, hs, List.length_map, readFrom_texts g hr g.length 0 [] (by omega)]
  · rfl
  · intro e
    rw [ByteArray.toList_eq, hl] at e
    have hm : (110 : UInt8) ∈ Lib.join (dl (g.map itoaB)) [44] := by
      have e' : Lib.join (dl (g.map itoaB)) [44] = [110, 111, 110, 101] := e
      rw [e']; simp
    rcases join_mem hm with hm | ⟨p, hp, hm⟩
    · exact absurd hm (by decide)
    · unfold dl at hp
      rw [List.mem_map] at hp
      obtain ⟨z, hz, rfl⟩ := hp
      rw [List.mem_map] at hz
      obtain ⟨y, hy, rfl⟩ := hz
      have := itoa_bytes y 110 hm
      exact absurd this (by decide)
end Go.Proofs.YthednemidaegkaaGreatDoorM
