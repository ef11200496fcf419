/- Integers and numbers are parsed from their decimal texts, and parsed texts are those: for every input. No further condition. -/
import Derived.Test.YtplmcifjgmcmhaaDoorPFnNumbersx1
import Derived.Test.YtplmcifjgmcmhaaDoorPFnNumbersx2
import Derived.Test.YtplmcifjgmcmhaaDoorPFnNumbersx3
import Derived.Test.YtplmcifjgmcmhaaDoorPFnNumbersx4
import Derived.Test.YtplmcifjgmcmhaaDoorM0
import Derived.Test.YtplmcifjgmcmhaaDoorMJ
import Derived.Test.YtplmcifjgmcmhaaDoorMN
import Derived.Test.YtplmcifjgmcmhaaDoorMP
import Derived.Test.YtplmcifjgmcmhaaDoorM1
import Derived.Test.YtplmcifjgmcmhaaDoorM2
import Derived.Test.YtplmcifjgmcmhaaDoorM3
import Derived.Test.YtplmcifjgmcmhaaDoorM4
import Derived.Test.YtplmcifjgmcmhaaDoorM5
import Derived.Test.YtplmcifjgmcmhaaDoorM6
import Derived.Test.YtplmcifjgmcmhaaDoorM7
import Derived.Test.YtplmcifjgmcmhaaDoorM8
import Derived.Test.YtplmcifjgmcmhaaDoorMD
import Derived.Test.YtplmcifjgmcmhaaDoorMU
namespace Go.Proofs.YtplmcifjgmcmhaaDoor.PFnNumbers
open Go.RowKit Go.Proofs.YtplmcifjgmcmhaaDoorW.PrintWords Go.Proofs.YtplmcifjgmcmhaaDoorW.PrintLast Go.Proofs.YtplmcifjgmcmhaaDoorW.PrintMore Go.Proofs.YtplmcifjgmcmhaaDoorM
set_option linter.unusedVariables false
set_option linter.unusedSimpArgs false
/-! spec_FormatInt -/
theorem spec_FormatInt.l0_ev : ∀ (n : Nat) (x : Int) (neg : Bool) (s : List UInt8), x.natAbs = n → -9223372036854775808 ≤ x → x ≤ 9223372036854775807 → (s.length + (digs n).length ≤ 100) → Ev (fun k => spec_FormatInt.l0 k x neg ⟨s.toArray⟩) ⟨((if neg = true then [45] else []) ++ (digs n ++ s)).toArray⟩ := by
  intro n
  induction n using Nat.strongRecOn with
  | _ n ih =>
    intro x neg s hx hlo hhi hs
    refine Ev.step (fun k => by rw [spec_FormatInt.l0]) ?_
    by_cases e : x = 0
    · refine ev_pos e ?_
      obtain rfl : n = 0 := by omega
      cases neg with
      | false => exact ev_neg (by simp) (Ev.now _)
      | true =>
        refine ev_pos rfl (ev_pos (by rw [ba_size]; omega) ?_)
        have : (⟨#[45]⟩ : ByteArray) ++ (⟨s.toArray⟩ : ByteArray) = ⟨(([45] : List UInt8) ++ (digs 0 ++ s)).toArray⟩ := ba_append [45] s
        rw [this]
        exact Ev.now _
    · have hn : 0 < n := by omega
      have hl : (digs n).length = (digs (n / 10)).length + 1 := by rw [digs_step hn]; simp
      have hd : (Int.tdiv x 10).natAbs = n / 10 := by rw [Int.natAbs_tdiv, hx]; rfl
      have hb : -9223372036854775808 ≤ Int.tdiv x 10 ∧ Int.tdiv x 10 ≤ 9223372036854775807 := by omega
      have hr : (Int.tmod x 10).natAbs = n % 10 := by rw [Int.natAbs_tmod, hx]; rfl
      have hw : wrap64 (Int.tdiv x 10) = Int.tdiv x 10 := w64 hb.1 hb.2
      have go := ih (n / 10) (by omega) (Int.tdiv x 10) neg (UInt8.ofNat (48 + n % 10) :: s) hd hb.1 hb.2 (by rw [List.length_cons]; omega)
      have e2 : digs (n / 10) ++ UInt8.ofNat (48 + n % 10) :: s = digs n ++ s := by rw [digs_step hn]; simp
      rw [e2] at go
      have one : ∀ z : Int, z = ((48 + n % 10 : Nat) : Int) → strOfNums [z] ++ (⟨s.toArray⟩ : ByteArray) = ⟨(UInt8.ofNat (48 + n % 10) :: s).toArray⟩ := fun z hz => by
        rw [hz, strOfNums_one _ (by omega), ba_append]; rfl
      have sz : ∀ z : Int, z = ((48 + n % 10 : Nat) : Int) → (strOfNums [z]).size = 1 := fun z hz => by
        rw [hz, strOfNums_one _ (by omega), ba_size]; rfl
      refine ev_neg e ?_
      by_cases hm : Int.tmod x 10 < 0
      · have h1 : wrap64 (48 + wrap64 (-Int.tmod x 10)) % 256 = ((48 + n % 10 : Nat) : Int) := by
          rw [w64 (n := -Int.tmod x 10) (by omega) (by omega), w64 (by omega) (by omega)]
          omega
        refine ev_pos hm ?_
        simp only [Option.bind_some]
        rw [hw, one _ h1, sz _ h1]
        exact ev_pos (by rw [ba_size]; omega) go
      · have h1 : wrap64 (48 + Int.tmod x 10) % 256 = ((48 + n % 10 : Nat) : Int) := by
          rw [w64 (by omega) (by omega)]
          omega
        refine ev_neg hm ?_
        simp only [Option.bind_some]
        rw [hw, one _ h1, sz _ h1]
        exact ev_pos (by rw [ba_size]; omega) go
theorem spec_FormatInt.ev (x : Int) (h : -9223372036854775808 ≤ x) (h' : x ≤ 9223372036854775807) : Ev (fun k => spec_FormatInt.f k x) (itoaB x) := by
  unfold spec_FormatInt.f
  by_cases e : x = 0
  · subst e
    have : itoaB 0 = ⟨#[48]⟩ := by simp [itoaB, Lib.itoa, Lib.decDigits]
    rw [this]
    exact ev_pos rfl (Ev.now _)
  · refine ev_neg e ?_
    have := digs_length x.natAbs (by omega)
    have go := spec_FormatInt.l0_ev x.natAbs x (decide (x < 0)) [] rfl h h' (by simp; omega)
    rw [itoaB_of x e]
    simp only [List.append_nil, decide_eq_true_eq] at go
    exact go

/-! impl_FormatInt -/
theorem impl_FormatInt.eq (x : Int) (h : -9223372036854775808 ≤ x) (h' : x ≤ 9223372036854775807) : impl_FormatInt.f x = some (itoaB x) := by
  unfold impl_FormatInt.f strconv_Itoa_45.f
  rw [if_pos ⟨h, h'⟩]
  rfl

/-! strings_TrimPrefix -/
theorem strings_TrimPrefix.minus (s : ByteArray) : strings_TrimPrefix.f s (⟨#[45]⟩ : ByteArray) = some (cutB s (isNeg s)) := by
  have e1 : (⟨#[45]⟩ : ByteArray).size = 1 := rfl
  unfold strings_TrimPrefix.f stringslite_TrimPrefix.f stringslite_HasPrefix.f
  simp only [e1]
  by_cases h : 1 ≤ s.size
  · rw [if_pos (by omega), if_pos (by omega), if_pos (by omega)]
    have hp := prefix_neg s h
    have e2 : ((1 : Nat) : Int).toNat = 1 := rfl
    simp only [e2, Option.bind_some]
    rw [hp]
    unfold cutB
    by_cases c : isNeg s = true
    · rw [if_pos c, if_pos c, if_pos (by omega), if_pos (by omega)]; rfl
    · rw [if_neg c, if_neg c]; rfl
  · have c : isNeg s = false := by
      unfold isNeg
      rw [decide_eq_false (by omega)]
      rfl
    rw [if_neg (by omega)]
    simp only [Option.bind_some]
    rw [c]
    rfl

/-! impl_parsed -/
theorem impl_parsed.l0_ev (s t : ByteArray) (neg : Bool) (hn : (t.size < s.size) ↔ neg = true) (ht : t.size < 1000000000000) : ∀ (d j : Nat) (acc : Int), j + d = t.size → (-9223372036854775808 ≤ acc ∧ acc ≤ 9223372036854775807) → Ev (fun k => impl_parsed.l0 k s t acc (j : Int)) (match accD t d j acc with | none => (0, false) | some x => finV s (negV neg x)) := by
  intro d
  induction d with
  | zero =>
    intro j acc h1 h2
    refine Ev.step (fun k => by rw [impl_parsed.l0]) ?_
    refine ev_neg (by omega) ?_
    show Ev _ (finV s (negV neg acc))
    unfold finV negV
    by_cases c : neg = true
    · have hc := hn.2 c
      refine ev_pos (by omega) ?_
      rw [impl_FormatInt.eq _ (wrap_range _).1 (wrap_range _).2, if_pos c]
      simp only [Option.bind_some]
      by_cases e : (itoaB (wrap64 (-acc))).toList = s.toList
      · simp only [if_pos e]; exact Ev.now _
      · simp only [if_neg e]; exact Ev.now _
    · have hc : ¬ t.size < s.size := fun h => c (hn.1 h)
      refine ev_neg (by omega) ?_
      rw [impl_FormatInt.eq _ h2.1 h2.2, if_neg c]
      simp only [Option.bind_some]
      by_cases e : (itoaB acc).toList = s.toList
      · simp only [if_pos e]; exact Ev.now _
      · simp only [if_neg e]; exact Ev.now _
  | succ d ih =>
    intro j acc h1 h2
    refine Ev.step (fun k => by rw [impl_parsed.l0]) ?_
    rw [wadd1 (j := j) (by omega), accD]
    refine ev_pos (by omega) (ev_pos (by omega) ?_)
    by_cases c1 : bt t (j : Int) < 48
    · rw [if_pos c1]; exact ev_pos c1 (Ev.now _)
    · rw [if_neg c1]
      refine ev_neg c1 ?_
      by_cases c2 : bt t (j : Int) > 57
      · rw [if_pos c2]; exact ev_pos c2 (Ev.now _)
      · rw [if_neg c2]
        exact ev_neg c2 (ih (j + 1) _ (by omega) (wrap_range _))
theorem cutB_size (s : ByteArray) : ((cutB s (isNeg s)).size < s.size ↔ isNeg s = true) ∧ (cutB s (isNeg s)).size ≤ s.size := by
  unfold cutB
  by_cases c : isNeg s = true
  · have h : 0 < s.size := by
      unfold isNeg at c
      simp only [Bool.and_eq_true, decide_eq_true_eq] at c
      exact c.1
    rw [if_pos c, extract_size s 1 (by omega)]
    exact ⟨⟨fun _ => c, fun _ => by omega⟩, by omega⟩
  · rw [if_neg c]
    exact ⟨⟨fun h => by omega, fun h => absurd h c⟩, by omega⟩
theorem impl_parsed.ev (s : ByteArray) (m : Int) (hs : s.size ≤ 1048576) : Ev (fun k => impl_parsed.f k s m) (readV s m) := by
  unfold impl_parsed.f readV
  rw [strings_TrimPrefix.minus]
  simp only [Option.bind_some]
  have hc := cutB_size s
  have go := impl_parsed.l0_ev s (cutB s (isNeg s)) (isNeg s) hc.1 (by omega) (cutB s (isNeg s)).size 0 0 (by omega) (by omega)
  by_cases c1 : (cutB s (isNeg s)).size < 1
  · rw [if_pos (.inl c1)]
    refine ev_pos (by omega) (Ev.step (fun k => by rw [impl_parsed.j0]) ?_)
    exact ev_pos rfl (Ev.now _)
  · refine ev_neg (by omega) (Ev.step (fun k => by rw [impl_parsed.j0]) ?_)
    by_cases c2 : ((cutB s (isNeg s)).size : Int) > m
    · rw [if_pos (.inr c2)]
      exact ev_pos (decide_eq_true c2) (Ev.now _)
    · rw [if_neg (by omega)]
      exact ev_neg (by simpa using c2) go

/-! impl_ParseInt -/
theorem impl_ParseInt.ev (s : ByteArray) (hs : s.size ≤ 1048576) : Ev (fun k => impl_ParseInt.f k s) (readV s 12) := by
  unfold impl_ParseInt.f
  exact Ev.bind (impl_parsed.ev s 12 hs) (Ev.now _)

/-! spec_l1Read -/
theorem spec_l1Read.l0_ev (s t : ByteArray) (neg : Bool) (ht : t.size < 1000000000000) : ∀ (d j : Nat) (acc : Int), j + d = t.size → (-9223372036854775808 ≤ acc ∧ acc ≤ 9223372036854775807) → Ev (fun k => spec_l1Read.l0 k s neg t acc (j : Int)) (match accD t d j acc with | none => (0, false) | some x => finV s (negV neg x)) := by
  intro d
  induction d with
  | zero =>
    intro j acc h1 h2
    refine Ev.step (fun k => by rw [spec_l1Read.l0]) ?_
    refine ev_neg (by omega) ?_
    show Ev _ (finV s (negV neg acc))
    unfold finV negV
    by_cases c : neg = true
    · refine ev_pos c (Ev.bind (spec_FormatInt.ev _ (wrap_range _).1 (wrap_range _).2) ?_)
      rw [if_pos c]
      by_cases e : (itoaB (wrap64 (-acc))).toList = s.toList
      · simp only [if_pos e]; exact Ev.now _
      · simp only [if_neg e]; exact Ev.now _
    · refine ev_neg c (Ev.bind (spec_FormatInt.ev _ h2.1 h2.2) ?_)
      rw [if_neg c]
      by_cases e : (itoaB acc).toList = s.toList
      · simp only [if_pos e]; exact Ev.now _
      · simp only [if_neg e]; exact Ev.now _
  | succ d ih =>
    intro j acc h1 h2
    refine Ev.step (fun k => by rw [spec_l1Read.l0]) ?_
    rw [wadd1 (j := j) (by omega), accD]
    refine ev_pos (by omega) (ev_pos (by omega) ?_)
    by_cases c1 : bt t (j : Int) < 48
    · rw [if_pos c1]; exact ev_pos c1 (Ev.now _)
    · rw [if_neg c1]
      refine ev_neg c1 ?_
      by_cases c2 : bt t (j : Int) > 57
      · rw [if_pos c2]; exact ev_pos c2 (Ev.now _)
      · rw [if_neg c2]
        exact ev_neg c2 (ih (j + 1) _ (by omega) (wrap_range _))
theorem spec_l1Read.j1_ev (s : ByteArray) (m : Int) (hs : s.size ≤ 1048576) : Ev (fun k => spec_l1Read.j1 k s m (isNeg s) (cutB s (isNeg s))) (readV s m) := by
  have hz : (cutB s (isNeg s)).size ≤ s.size := by
    unfold cutB
    split
    · rw [ByteArray.size_extract]; omega
    · exact Nat.le_refl _
  unfold readV
  have go := spec_l1Read.l0_ev s (cutB s (isNeg s)) (isNeg s) (by omega) (cutB s (isNeg s)).size 0 0 (by omega) (by omega)
  refine Ev.step (fun k => by rw [spec_l1Read.j1]) ?_
  by_cases c1 : (cutB s (isNeg s)).size < 1
  · rw [if_pos (.inl c1)]
    refine ev_pos (by omega) (Ev.step (fun k => by rw [spec_l1Read.j2]) ?_)
    exact ev_pos rfl (Ev.now _)
  · refine ev_neg (by omega) (Ev.step (fun k => by rw [spec_l1Read.j2]) ?_)
    by_cases c2 : ((cutB s (isNeg s)).size : Int) > m
    · rw [if_pos (.inr c2)]
      exact ev_pos (decide_eq_true c2) (Ev.now _)
    · rw [if_neg (by omega)]
      exact ev_neg (by simpa using c2) go
theorem spec_l1Read.j0_ev (s : ByteArray) (m : Int) (hs : s.size ≤ 1048576) : Ev (fun k => spec_l1Read.j0 k s m (isNeg s)) (readV s m) := by
  have go := spec_l1Read.j1_ev s m hs
  refine Ev.step (fun k => by rw [spec_l1Read.j0]) ?_
  by_cases c : isNeg s = true
  · have h : 0 < s.size := by
      unfold isNeg at c
      simp only [Bool.and_eq_true, decide_eq_true_eq] at c
      exact c.1
    have e : cutB s (isNeg s) = s.extract 1 s.size := by unfold cutB; rw [if_pos c]
    rw [e] at go
    exact ev_pos c (ev_pos (by omega) go)
  · have e : cutB s (isNeg s) = s := by unfold cutB; rw [if_neg c]
    rw [e] at go
    exact ev_neg c go
theorem spec_l1Read.ev (s : ByteArray) (m : Int) (hs : s.size ≤ 1048576) : Ev (fun k => spec_l1Read.f k s m) (readV s m) := by
  have go := spec_l1Read.j0_ev s m hs
  unfold spec_l1Read.f
  by_cases h : 0 < s.size
  · have e : (bt s 0 == 45) = isNeg s := by
      unfold isNeg
      rw [decide_eq_true h, Bool.true_and]
      by_cases c : bt s 0 = 45
      · rw [decide_eq_true c, c]; rfl
      · rw [decide_eq_false c]; exact beq_eq_false_iff_ne.2 c
    rw [e]
    exact ev_pos (by omega) (ev_pos (by omega) go)
  · have e : false = isNeg s := by
      unfold isNeg
      rw [decide_eq_false h]
      rfl
    rw [e]
    exact ev_neg (by omega) go

/-! spec_ParseNumber -/
theorem spec_ParseNumber.ev (s : ByteArray) (hs : s.size ≤ 1048576) : Ev (fun k => spec_ParseNumber.f k s) (numV (readV s 6)) := by
  unfold spec_ParseNumber.f numV
  refine Ev.bind (spec_l1Read.ev s 6 hs) ?_
  by_cases c : (readV s 6).2 = true
  · simp only [if_pos c]
    by_cases c2 : (readV s 6).1 < 0
    · simp only [if_pos c2]; exact Ev.now _
    · simp only [if_neg c2]; exact Ev.now _
  · simp only [if_neg c]
    exact Ev.now _

/-! impl_ParseNumber -/
theorem impl_ParseNumber.ev (s : ByteArray) (hs : s.size ≤ 1048576) : Ev (fun k => impl_ParseNumber.f k s) (numV (readV s 6)) := by
  unfold impl_ParseNumber.f numV
  refine Ev.bind (impl_parsed.ev s 6 hs) ?_
  by_cases c : (readV s 6).2 = true
  · simp only [if_pos c]
    by_cases c2 : (readV s 6).1 < 0
    · simp only [if_pos c2]; exact Ev.now _
    · simp only [if_neg c2]; exact Ev.now _
  · simp only [if_neg c]
    exact Ev.now _

/-! laws_big -/
theorem laws_big.eq (l : List Int) : laws_big.f l = some (decide ((l.length : Int) > 1048576)) := rfl

/-! spec_l1Byte -/
theorem spec_l1Byte.eq (s : List Int) (hs : s.length < 4611686018427387904) (i : Int) (hi : 0 ≤ i) (h : Int) : ∃ x i' h', spec_l1Byte.f s i h = some (x, i', h') ∧ (0 ≤ x ∧ x ≤ 255) ∧ 0 ≤ i' := by
  unfold spec_l1Byte.f
  by_cases c : i < (s.length : Int)
  · rw [if_pos c, if_pos hi]
    have e : wrap64 (i + 1) = i + 1 := w64 (by omega) (by omega)
    exact ⟨_, _, _, rfl, and255 _, by rw [e]; omega⟩
  · rw [if_neg c]
    exact ⟨_, _, _, rfl, and255 _, hi⟩

/-! spec_l1Below -/
theorem tmod_range {x n : Int} (hx : 0 ≤ x) (hn : 1 ≤ n) : 0 ≤ Int.tmod x n ∧ Int.tmod x n < n := by
  rw [Int.tmod_eq_emod_of_nonneg hx]
  exact ⟨Int.emod_nonneg _ (by omega), Int.emod_lt_of_pos _ (by omega)⟩
theorem spec_l1Below.eq (s : List Int) (hs : s.length < 4611686018427387904) (i : Int) (hi : 0 ≤ i) (h n : Int) (hn : 1 ≤ n) : ∃ x i' h', spec_l1Below.f s i h n = some (x, i', h') ∧ (0 ≤ x ∧ x < n) ∧ 0 ≤ i' := by
  unfold spec_l1Below.f
  rw [if_neg (by omega)]
  obtain ⟨x, i1, h1, e1, hx, hi1⟩ := spec_l1Byte.eq s hs i hi h
  by_cases c : n ≤ 256
  · rw [if_pos c, e1]
    simp only [Option.bind_some]
    rw [if_neg (by omega)]
    exact ⟨_, _, _, rfl, tmod_range hx.1 hn, hi1⟩
  · rw [if_neg c, e1]
    simp only [Option.bind_some]
    obtain ⟨y, i2, h2, e2, hy, hi2⟩ := spec_l1Byte.eq s hs i1 hi1 h1
    rw [e2]
    simp only [Option.bind_some]
    obtain ⟨z, i3, h3, e3, hz, hi3⟩ := spec_l1Byte.eq s hs i2 hi2 h2
    rw [e3]
    simp only [Option.bind_some]
    obtain ⟨v, i4, h4, e4, hv, hi4⟩ := spec_l1Byte.eq s hs i3 hi3 h3
    rw [e4]
    simp only [Option.bind_some]
    rw [if_neg (by omega)]
    have a1 : wrap64 (x * 16777216) = x * 16777216 := w64 (by omega) (by omega)
    have a2 : wrap64 (y * 65536) = y * 65536 := w64 (by omega) (by omega)
    have a3 : wrap64 (z * 256) = z * 256 := w64 (by omega) (by omega)
    rw [a1, a2, a3]
    have a4 : wrap64 (x * 16777216 + y * 65536) = x * 16777216 + y * 65536 := w64 (by omega) (by omega)
    rw [a4]
    have a5 : wrap64 (x * 16777216 + y * 65536 + z * 256) = x * 16777216 + y * 65536 + z * 256 := w64 (by omega) (by omega)
    rw [a5]
    have a6 : wrap64 (x * 16777216 + y * 65536 + z * 256 + v) = x * 16777216 + y * 65536 + z * 256 + v := w64 (by omega) (by omega)
    rw [a6]
    exact ⟨_, _, _, rfl, tmod_range (by omega) hn, hi4⟩

/-! spec_l1PickInt -/
theorem spec_l1PickInt.eq (s : List Int) (hs : s.length < 4611686018427387904) (i : Int) (hi : 0 ≤ i) (h : Int) (l : List Int) (hl : 1 ≤ l.length) : ∃ x i' h', spec_l1PickInt.f s i h l = some (x, i', h') ∧ x ∈ l ∧ 0 ≤ i' := by
  obtain ⟨x, i1, h1, e1, hx, hi1⟩ := spec_l1Below.eq s hs i hi h (l.length : Int) (by omega)
  unfold spec_l1PickInt.f
  rw [e1]
  simp only [Option.bind_some]
  rw [if_pos hx.1, if_pos hx.2]
  refine ⟨_, _, _, rfl, ?_, hi1⟩
  obtain ⟨m, rfl⟩ : ∃ m : Nat, x = (m : Int) := ⟨x.toNat, by omega⟩
  rw [rd_nat]
  exact getD_mem (by omega)

/-! spec_l1Whole -/
theorem spec_l1Whole.eq (s : List Int) (hs : s.length < 4611686018427387904) (i : Int) (hi : 0 ≤ i) (h : Int) : ∃ x i' h', spec_l1Whole.f s i h = some (x, i', h') ∧ (-9223372036854775808 ≤ x ∧ x ≤ 9223372036854775807) ∧ 0 ≤ i' := by
  obtain ⟨b, i1, h1, e1, hb, hi1⟩ := spec_l1Below.eq s hs i hi h 3 (by omega)
  unfold spec_l1Whole.f
  rw [e1]
  simp only [Option.bind_some]
  by_cases c0 : b = 0
  · rw [if_pos c0]
    obtain ⟨x, i2, h2, e2, hx, hi2⟩ := spec_l1PickInt.eq s hs i1 hi1 h1 [0, 1, (-1), 9, 10, 999999, 1000000, 999999999999, 1000000000000, (-999999999999), 9223372036854775807, (-9223372036854775808)] (by simp)
    rw [e2]
    refine ⟨_, _, _, rfl, (?_ : -9223372036854775808 ≤ x ∧ x ≤ 9223372036854775807), hi2⟩
    simp only [List.mem_cons, List.not_mem_nil, or_false] at hx
    rcases hx with rfl | rfl | rfl | rfl | rfl | rfl | rfl | rfl | rfl | rfl | rfl | rfl <;> decide
  · rw [if_neg c0]
    by_cases c1 : b = 1
    · rw [if_pos c1]
      obtain ⟨x, i2, h2, e2, hx, hi2⟩ := spec_l1Below.eq s hs i1 hi1 h1 1000000 (by omega)
      rw [e2]
      refine ⟨_, _, _, rfl, ?_, hi2⟩
      show _ ≤ wrap64 (x - 500000) ∧ wrap64 (x - 500000) ≤ _
      rw [w64 (by omega) (by omega)]
      omega
    · rw [if_neg c1]
      obtain ⟨x, i2, h2, e2, hx, hi2⟩ := spec_l1Below.eq s hs i1 hi1 h1 20 (by omega)
      rw [e2]
      exact ⟨_, _, _, rfl, by simp only []; omega, hi2⟩

/-! spec_l1New -/
theorem spec_l1New.l0_ev (l : List Int) (hl : l.length < 4611686018427387904) : ∀ (d j : Nat) (h : Int), j + d = l.length → ∃ h', Ev (fun k => spec_l1New.l0 k l h (j : Int)) (l, 0, h') := by
  intro d
  induction d with
  | zero =>
    intro j h g1
    refine ⟨h, Ev.step (fun k => by rw [spec_l1New.l0]) ?_⟩
    exact ev_neg (by omega) (Ev.now _)
  | succ d ih =>
    intro j h g1
    by_cases c : (j : Int) < 4000
    · obtain ⟨h', hh⟩ := ih (j + 1) (Go.bits .and .i64 (wrap64 ((wrap64 ((wrap64 (h * 131)) + (wrap64 (rd l (j : Int))))) + 7)) 1073741823) (by omega)
      refine ⟨h', Ev.step (fun k => by rw [spec_l1New.l0]) ?_⟩
      rw [wadd1 (j := j) (by omega)]
      exact ev_pos (by omega) (ev_pos c (ev_pos (by omega) hh))
    · refine ⟨h, Ev.step (fun k => by rw [spec_l1New.l0]) ?_⟩
      exact ev_pos (by omega) (ev_neg c (Ev.now _))
theorem spec_l1New.ev (l : List Int) (hl : l.length < 4611686018427387904) : ∃ h, Ev (fun k => spec_l1New.f k l) (l, 0, h) := by
  unfold spec_l1New.f
  exact spec_l1New.l0_ev l hl l.length 0 _ (by omega)

/-! spec_DrawFormatInt -/
theorem spec_DrawFormatInt.ev (l : List Int) (hl : l.length < 4611686018427387904) : ∃ x, Ev (fun k => spec_DrawFormatInt.f k l) x ∧ -9223372036854775808 ≤ x ∧ x ≤ 9223372036854775807 := by
  obtain ⟨h, hh⟩ := spec_l1New.ev l hl
  obtain ⟨x, i1, h1, e1, hx, hi1⟩ := spec_l1Whole.eq l hl 0 (by omega) h
  refine ⟨x, ?_, hx⟩
  unfold spec_DrawFormatInt.f
  refine Ev.bind hh ?_
  simp only []
  rw [e1]
  exact Ev.now _

/-! spec_l1Once -/
theorem spec_l1Once.eq (s : List Int) (hs : s.length < 4611686018427387904) (i : Int) (hi : 0 ≤ i) (h n : Int) (hn : 1 ≤ n) : ∃ b i' h', spec_l1Once.f s i h n = some (b, i', h') ∧ 0 ≤ i' := by
  obtain ⟨x, i1, h1, e1, hx, hi1⟩ := spec_l1Below.eq s hs i hi h n hn
  unfold spec_l1Once.f
  rw [e1]
  exact ⟨_, _, _, rfl, hi1⟩

/-! spec_l1Pick -/
theorem spec_l1Pick.eq (s : List Int) (hs : s.length < 4611686018427387904) (i : Int) (hi : 0 ≤ i) (h : Int) (l : List ByteArray) (hl : 1 ≤ l.length) : ∃ x i' h', spec_l1Pick.f s i h l = some (x, i', h') ∧ x ∈ l ∧ 0 ≤ i' := by
  obtain ⟨x, i1, h1, e1, hx, hi1⟩ := spec_l1Below.eq s hs i hi h (l.length : Int) (by omega)
  unfold spec_l1Pick.f
  rw [e1]
  simp only [Option.bind_some]
  rw [if_pos hx.1, if_pos hx.2]
  refine ⟨_, _, _, rfl, ?_, hi1⟩
  obtain ⟨m, rfl⟩ : ∃ m : Nat, x = (m : Int) := ⟨x.toNat, by omega⟩
  rw [rdOf_nat]
  have hm : m < l.length := by omega
  simp [List.getD_eq_getElem?_getD, hm]

/-! spec_DrawParseNumber -/
def drawnNumbers : List ByteArray := [(⟨#[]⟩ : ByteArray), (⟨#[48, 48]⟩ : ByteArray), (⟨#[48, 49]⟩ : ByteArray), (⟨#[45, 49]⟩ : ByteArray), (⟨#[43, 49]⟩ : ByteArray), (⟨#[120]⟩ : ByteArray), (⟨#[57, 57, 57, 57, 57, 57]⟩ : ByteArray), (⟨#[49, 48, 48, 48, 48, 48, 48]⟩ : ByteArray), (⟨#[45, 48]⟩ : ByteArray), (⟨#[45]⟩ : ByteArray), (⟨#[32, 49]⟩ : ByteArray), (⟨#[49, 32]⟩ : ByteArray)]
theorem drawnNumbers_small : ∀ s ∈ drawnNumbers, s.size ≤ 100 := by
  intro s hs
  simp only [drawnNumbers, List.mem_cons, List.not_mem_nil, or_false] at hs
  rcases hs with rfl | rfl | rfl | rfl | rfl | rfl | rfl | rfl | rfl | rfl | rfl | rfl <;> decide
theorem spec_DrawParseNumber.ev (l : List Int) (hl : l.length < 4611686018427387904) : ∃ s, Ev (fun k => spec_DrawParseNumber.f k l) s ∧ s.size ≤ 100 := by
  obtain ⟨h, hh⟩ := spec_l1New.ev l hl
  obtain ⟨b, i1, h1, e1, hi1⟩ := spec_l1Once.eq l hl 0 (by omega) h 2 (by omega)
  obtain ⟨x, i2, h2, e2, hx, hi2⟩ := spec_l1Whole.eq l hl i1 hi1 h1
  obtain ⟨s, i3, h3, e3, hs, hi3⟩ := spec_l1Pick.eq l hl i1 hi1 h1 drawnNumbers (by simp [drawnNumbers])
  unfold drawnNumbers at e3
  unfold spec_DrawParseNumber.f
  by_cases c : b = true
  · refine ⟨itoaB x, ?_, by have := itoaB_size x hx.1 hx.2; omega⟩
    refine Ev.bind hh ?_
    simp only []
    rw [e1]
    simp only [Option.bind_some]
    refine ev_pos c ?_
    rw [e2]
    simp only [Option.bind_some]
    exact Ev.bind (spec_FormatInt.ev x hx.1 hx.2) (Ev.now _)
  · refine ⟨s, ?_, drawnNumbers_small s hs⟩
    refine Ev.bind hh ?_
    simp only []
    rw [e1]
    simp only [Option.bind_some]
    refine ev_neg c ?_
    rw [e3]
    exact Ev.now _

end Go.Proofs.YtplmcifjgmcmhaaDoor.PFnNumbers
namespace Go.Proofs.YtplmcifjgmcmhaaDoor.Pure
open Go.RowKit Go.Proofs.YtplmcifjgmcmhaaDoorW.PrintWords Go.Proofs.YtplmcifjgmcmhaaDoorW.PrintLast Go.Proofs.YtplmcifjgmcmhaaDoorW.PrintMore Go.Proofs.YtplmcifjgmcmhaaDoorM
set_option linter.unusedVariables false
set_option linter.unusedSimpArgs false
open Go.Proofs.YtplmcifjgmcmhaaDoor.PFnNumbers
theorem FnNumbers.j0_ev (l : List Int) (hl : l.length < 4611686018427387904) : Ev (fun k => laws_FnNumbers.j0 k l false) true := by
  obtain ⟨t, ht, hs⟩ := spec_DrawParseNumber.ev l hl
  refine Ev.step (fun k => by rw [laws_FnNumbers.j0]) ?_
  refine ev_neg (by simp) (Ev.bind ht (Ev.bind (impl_ParseNumber.ev t (by omega)) (Ev.bind (spec_ParseNumber.ev t (by omega)) ?_)))
  refine ev_pos (by simp) ?_
  by_cases c : (numV (readV t 6)).2 = true
  · refine ev_pos c ?_
    unfold numV at c ⊢
    by_cases c1 : (readV t 6).2 = true
    · simp only [if_pos c1] at c ⊢
      by_cases c2 : (readV t 6).1 < 0
      · rw [if_pos c2] at c; cases c
      · simp only [if_neg c2] at c ⊢
        obtain ⟨hr, he⟩ := readV_true c1
        rw [impl_FormatInt.eq _ hr.1 hr.2, he]
        simp only [Option.bind_some]
        refine ev_pos (by trivial) ?_
        rw [decide_eq_true (by omega)]
        exact Ev.now _
    · rw [if_neg c1] at c; cases c
  · exact ev_neg c (Ev.now _)
theorem FnNumbers : laws_FnNumbers.Pure := by
  intro l0 hl h1 hw
  have hl' : l0.length < 4611686018427387904 := by omega
  refine Ev.rounds ?_
  unfold laws_FnNumbers.f laws_big.f
  simp only [Option.bind_some]
  by_cases h : (l0.length : Int) > 1048576
  · exact ev_pos (decide_eq_true h) (Ev.now _)
  · refine ev_neg (by simpa using h) ?_
    obtain ⟨n, hn, hr⟩ := spec_DrawFormatInt.ev l0 hl'
    have hsz := itoaB_size n hr.1 hr.2
    have hlen := itoaB_len n
    have hp := decDigits_pos n.natAbs
    refine Ev.bind hn ?_
    rw [impl_FormatInt.eq n hr.1 hr.2]
    simp only [Option.bind_some]
    refine Ev.bind (impl_ParseInt.ev (itoaB n) (by omega)) (Ev.bind (spec_FormatInt.ev n hr.1 hr.2) (ev_pos rfl ?_))
    rw [readV_itoa n 12 (by omega) hr.1 hr.2]
    have fin : Ev (fun k => laws_FnNumbers.j0 k l0 (n != n)) true := by
      rw [bne_self_eq_false]
      exact FnNumbers.j0_ev l0 hl'
    by_cases c : ((Lib.decDigits n.natAbs).length : Int) ≤ 12
    · simp only [if_pos c]
      by_cases c1 : ((itoaB n).size : Int) ≤ 12
      · exact ev_pos c1 (ev_neg (by simp) (ev_pos (by trivial) fin))
      · refine ev_neg c1 ?_
        by_cases c2 : n < 0
        · rw [if_pos c2] at hlen
          refine ev_pos c2 ?_
          rw [decide_eq_true (by omega : ((itoaB n).size : Int) ≤ 13)]
          exact ev_neg (by simp) (ev_pos (by trivial) fin)
        · rw [if_neg c2] at hlen
          omega
    · simp only [if_neg c]
      have c1 : ¬ ((itoaB n).size : Int) ≤ 12 := by omega
      refine ev_neg c1 ?_
      by_cases c2 : n < 0
      · rw [if_pos c2] at hlen
        refine ev_pos c2 ?_
        rw [decide_eq_false (by omega : ¬ ((itoaB n).size : Int) ≤ 13)]
        exact ev_neg (by simp) (ev_neg (by simp) (FnNumbers.j0_ev l0 hl'))
      · exact ev_neg c2 (ev_neg (by simp) (ev_neg (by simp) (FnNumbers.j0_ev l0 hl')))

end Go.Proofs.YtplmcifjgmcmhaaDoor.Pure
