/- The program's ParseNumber answers what the reference's answers, for every text (texts of more than 1048576 bytes are let pass by the law itself). No further condition. -/
import Derived.Test.YtplmcifjgmcmhaaDoorPFnExactParseNumberx1
import Derived.Test.YtplmcifjgmcmhaaDoorPFnExactParseNumberx2
import Derived.Test.YtplmcifjgmcmhaaDoorM0
import Derived.Test.YtplmcifjgmcmhaaDoorMJ
import Derived.Test.YtplmcifjgmcmhaaDoorMN
import Derived.Test.YtplmcifjgmcmhaaDoorMP
namespace Go.Proofs.YtplmcifjgmcmhaaDoor.PFnExactParseNumber
open Go.RowKit Go.Proofs.YtplmcifjgmcmhaaDoorW.PrintWords Go.Proofs.YtplmcifjgmcmhaaDoorW.PrintLast Go.Proofs.YtplmcifjgmcmhaaDoorW.PrintMore Go.Proofs.YtplmcifjgmcmhaaDoorM
set_option linter.unusedVariables false
set_option linter.unusedSimpArgs false
/-! spec_FormatInt -/
theorem spec_FormatInt.l0_ev : ∀ (n : Nat) (x : Int) (neg : Bool) (s : List UInt8), x.natAbs = n → -9223372036854775808 ≤ x → x ≤ 9223372036854775807 → (s.length + (digs n).length ≤ 100) → Ev (fun k => spec_FormatInt.l0 k x neg ⟨s.toArray⟩) ⟨((if neg = true then [45] else []) ++ (digs n ++ s)).toArray⟩ := by
  intro n
  induction n using Nat.strongRecOn with
  | _ n ih =>
    intro x neg s hx hlo hhi hs
    refine Ev.step (fun k => by rw [spec_FormatInt.l0]) ?_
    by_cases e : x = 0
    · refine ev_pos e ?_
      obtain rfl : n = 0 := by omega
      cases neg with
      | false => exact ev_neg (by simp) (Ev.now _)
      | true =>
        refine ev_pos rfl (ev_pos (by rw [ba_size]; omega) ?_)
        have : (⟨#[45]⟩ : ByteArray) ++ (⟨s.toArray⟩ : ByteArray) = ⟨(([45] : List UInt8) ++ (digs 0 ++ s)).toArray⟩ := ba_append [45] s
        rw [this]
        exact Ev.now _
    · have hn : 0 < n := by omega
      have hl : (digs n).length = (digs (n / 10)).length + 1 := by rw [digs_step hn]; simp
      have hd : (Int.tdiv x 10).natAbs = n / 10 := by rw [Int.natAbs_tdiv, hx]; rfl
      have hb : -9223372036854775808 ≤ Int.tdiv x 10 ∧ Int.tdiv x 10 ≤ 9223372036854775807 := by omega
      have hr : (Int.tmod x 10).natAbs = n % 10 := by rw [Int.natAbs_tmod, hx]; rfl
      have hw : wrap64 (Int.tdiv x 10) = Int.tdiv x 10 := w64 hb.1 hb.2
      have go := ih (n / 10) (by omega) (Int.tdiv x 10) neg (UInt8.ofNat (48 + n % 10) :: s) hd hb.1 hb.2 (by rw [List.length_cons]; omega)
      have e2 : digs (n / 10) ++ UInt8.ofNat (48 + n % 10) :: s = digs n ++ s := by rw [digs_step hn]; simp
      rw [e2] at go
      have one : ∀ z : Int, z = ((48 + n % 10 : Nat) : Int) → strOfNums [z] ++ (⟨s.toArray⟩ : ByteArray) = ⟨(UInt8.ofNat (48 + n % 10) :: s).toArray⟩ := fun z hz => by
        rw [hz, strOfNums_one _ (by omega), ba_append]; rfl
      have sz : ∀ z : Int, z = ((48 + n % 10 : Nat) : Int) → (strOfNums [z]).size = 1 := fun z hz => by
        rw [hz, strOfNums_one _ (by omega), ba_size]; rfl
      refine ev_neg e ?_
      by_cases hm : Int.tmod x 10 < 0
      · have h1 : wrap64 (48 + wrap64 (-Int.tmod x 10)) % 256 = ((48 + n % 10 : Nat) : Int) := by
          rw [w64 (n := -Int.tmod x 10) (by omega) (by omega), w64 (by omega) (by omega)]
          omega
        refine ev_pos hm ?_
        simp only [Option.bind_some]
        rw [hw, one _ h1, sz _ h1]
        exact ev_pos (by rw [ba_size]; omega) go
      · have h1 : wrap64 (48 + Int.tmod x 10) % 256 = ((48 + n % 10 : Nat) : Int) := by
          rw [w64 (by omega) (by omega)]
          omega
        refine ev_neg hm ?_
        simp only [Option.bind_some]
        rw [hw, one _ h1, sz _ h1]
        exact ev_pos (by rw [ba_size]; omega) go
theorem spec_FormatInt.ev (x : Int) (h : -9223372036854775808 ≤ x) (h' : x ≤ 9223372036854775807) : Ev (fun k => spec_FormatInt.f k x) (itoaB x) := by
  unfold spec_FormatInt.f
  by_cases e : x = 0
  · subst e
    have : itoaB 0 = ⟨#[48]⟩ := by simp [itoaB, Lib.itoa, Lib.decDigits]
    rw [this]
    exact ev_pos rfl (Ev.now _)
  · refine ev_neg e ?_
    have := digs_length x.natAbs (by omega)
    have go := spec_FormatInt.l0_ev x.natAbs x (decide (x < 0)) [] rfl h h' (by simp; omega)
    rw [itoaB_of x e]
    simp only [List.append_nil, decide_eq_true_eq] at go
    exact go

/-! spec_l1Read -/
theorem spec_l1Read.l0_ev (s t : ByteArray) (neg : Bool) (ht : t.size < 1000000000000) : ∀ (d j : Nat) (acc : Int), j + d = t.size → (-9223372036854775808 ≤ acc ∧ acc ≤ 9223372036854775807) → Ev (fun k => spec_l1Read.l0 k s neg t acc (j : Int)) (match accD t d j acc with | none => (0, false) | some x => finV s (negV neg x)) := by
  intro d
  induction d with
  | zero =>
    intro j acc h1 h2
    refine Ev.step (fun k => by rw [spec_l1Read.l0]) ?_
    refine ev_neg (by omega) ?_
    show Ev _ (finV s (negV neg acc))
    unfold finV negV
    by_cases c : neg = true
    · refine ev_pos c (Ev.bind (spec_FormatInt.ev _ (wrap_range _).1 (wrap_range _).2) ?_)
      rw [if_pos c]
      by_cases e : (itoaB (wrap64 (-acc))).toList = s.toList
      · simp only [if_pos e]; exact Ev.now _
      · simp only [if_neg e]; exact Ev.now _
    · refine ev_neg c (Ev.bind (spec_FormatInt.ev _ h2.1 h2.2) ?_)
      rw [if_neg c]
      by_cases e : (itoaB acc).toList = s.toList
      · simp only [if_pos e]; exact Ev.now _
      · simp only [if_neg e]; exact Ev.now _
  | succ d ih =>
    intro j acc h1 h2
    refine Ev.step (fun k => by rw [spec_l1Read.l0]) ?_
    rw [wadd1 (j := j) (by omega), accD]
    refine ev_pos (by omega) (ev_pos (by omega) ?_)
    by_cases c1 : bt t (j : Int) < 48
    · rw [if_pos c1]; exact ev_pos c1 (Ev.now _)
    · rw [if_neg c1]
      refine ev_neg c1 ?_
      by_cases c2 : bt t (j : Int) > 57
      · rw [if_pos c2]; exact ev_pos c2 (Ev.now _)
      · rw [if_neg c2]
        exact ev_neg c2 (ih (j + 1) _ (by omega) (wrap_range _))
theorem spec_l1Read.j1_ev (s : ByteArray) (m : Int) (hs : s.size ≤ 1048576) : Ev (fun k => spec_l1Read.j1 k s m (isNeg s) (cutB s (isNeg s))) (readV s m) := by
  have hz : (cutB s (isNeg s)).size ≤ s.size := by
    unfold cutB
    split
    · rw [ByteArray.size_extract]; omega
    · exact Nat.le_refl _
  unfold readV
  have go := spec_l1Read.l0_ev s (cutB s (isNeg s)) (isNeg s) (by omega) (cutB s (isNeg s)).size 0 0 (by omega) (by omega)
  refine Ev.step (fun k => by rw [spec_l1Read.j1]) ?_
  by_cases c1 : (cutB s (isNeg s)).size < 1
  · rw [if_pos (.inl c1)]
    refine ev_pos (by omega) (Ev.step (fun k => by rw [spec_l1Read.j2]) ?_)
    exact ev_pos rfl (Ev.now _)
  · refine ev_neg (by omega) (Ev.step (fun k => by rw [spec_l1Read.j2]) ?_)
    by_cases c2 : ((cutB s (isNeg s)).size : Int) > m
    · rw [if_pos (.inr c2)]
      exact ev_pos (decide_eq_true c2) (Ev.now _)
    · rw [if_neg (by omega)]
      exact ev_neg (by simpa using c2) go
theorem spec_l1Read.j0_ev (s : ByteArray) (m : Int) (hs : s.size ≤ 1048576) : Ev (fun k => spec_l1Read.j0 k s m (isNeg s)) (readV s m) := by
  have go := spec_l1Read.j1_ev s m hs
  refine Ev.step (fun k => by rw [spec_l1Read.j0]) ?_
  by_cases c : isNeg s = true
  · have h : 0 < s.size := by
      unfold isNeg at c
      simp only [Bool.and_eq_true, decide_eq_true_eq] at c
      exact c.1
    have e : cutB s (isNeg s) = s.extract 1 s.size := by unfold cutB; rw [if_pos c]
    rw [e] at go
    exact ev_pos c (ev_pos (by omega) go)
  · have e : cutB s (isNeg s) = s := by unfold cutB; rw [if_neg c]
    rw [e] at go
    exact ev_neg c go
theorem spec_l1Read.ev (s : ByteArray) (m : Int) (hs : s.size ≤ 1048576) : Ev (fun k => spec_l1Read.f k s m) (readV s m) := by
  have go := spec_l1Read.j0_ev s m hs
  unfold spec_l1Read.f
  by_cases h : 0 < s.size
  · have e : (bt s 0 == 45) = isNeg s := by
      unfold isNeg
      rw [decide_eq_true h, Bool.true_and]
      by_cases c : bt s 0 = 45
      · rw [decide_eq_true c, c]; rfl
      · rw [decide_eq_false c]; exact beq_eq_false_iff_ne.2 c
    rw [e]
    exact ev_pos (by omega) (ev_pos (by omega) go)
  · have e : false = isNeg s := by
      unfold isNeg
      rw [decide_eq_false h]
      rfl
    rw [e]
    exact ev_neg (by omega) go

/-! spec_ParseNumber -/
theorem spec_ParseNumber.ev (s : ByteArray) (hs : s.size ≤ 1048576) : Ev (fun k => spec_ParseNumber.f k s) (numV (readV s 6)) := by
  unfold spec_ParseNumber.f numV
  refine Ev.bind (spec_l1Read.ev s 6 hs) ?_
  by_cases c : (readV s 6).2 = true
  · simp only [if_pos c]
    by_cases c2 : (readV s 6).1 < 0
    · simp only [if_pos c2]; exact Ev.now _
    · simp only [if_neg c2]; exact Ev.now _
  · simp only [if_neg c]
    exact Ev.now _

/-! impl_FormatInt -/
theorem impl_FormatInt.eq (x : Int) (h : -9223372036854775808 ≤ x) (h' : x ≤ 9223372036854775807) : impl_FormatInt.f x = some (itoaB x) := by
  unfold impl_FormatInt.f strconv_Itoa_45.f
  rw [if_pos ⟨h, h'⟩]
  rfl

/-! strings_TrimPrefix -/
theorem strings_TrimPrefix.minus (s : ByteArray) : strings_TrimPrefix.f s (⟨#[45]⟩ : ByteArray) = some (cutB s (isNeg s)) := by
  have e1 : (⟨#[45]⟩ : ByteArray).size = 1 := rfl
  unfold strings_TrimPrefix.f stringslite_TrimPrefix.f stringslite_HasPrefix.f
  simp only [e1]
  by_cases h : 1 ≤ s.size
  · rw [if_pos (by omega), if_pos (by omega), if_pos (by omega)]
    have hp := prefix_neg s h
    have e2 : ((1 : Nat) : Int).toNat = 1 := rfl
    simp only [e2, Option.bind_some]
    rw [hp]
    unfold cutB
    by_cases c : isNeg s = true
    · rw [if_pos c, if_pos c, if_pos (by omega), if_pos (by omega)]; rfl
    · rw [if_neg c, if_neg c]; rfl
  · have c : isNeg s = false := by
      unfold isNeg
      rw [decide_eq_false (by omega)]
      rfl
    rw [if_neg (by omega)]
    simp only [Option.bind_some]
    rw [c]
    rfl

/-! impl_parsed -/
theorem impl_parsed.l0_ev (s t : ByteArray) (neg : Bool) (hn : (t.size < s.size) ↔ neg = true) (ht : t.size < 1000000000000) : ∀ (d j : Nat) (acc : Int), j + d = t.size → (-9223372036854775808 ≤ acc ∧ acc ≤ 9223372036854775807) → Ev (fun k => impl_parsed.l0 k s t acc (j : Int)) (match accD t d j acc with | none => (0, false) | some x => finV s (negV neg x)) := by
  intro d
  induction d with
  | zero =>
    intro j acc h1 h2
    refine Ev.step (fun k => by rw [impl_parsed.l0]) ?_
    refine ev_neg (by omega) ?_
    show Ev _ (finV s (negV neg acc))
    unfold finV negV
    by_cases c : neg = true
    · have hc := hn.2 c
      refine ev_pos (by omega) ?_
      rw [impl_FormatInt.eq _ (wrap_range _).1 (wrap_range _).2, if_pos c]
      simp only [Option.bind_some]
      by_cases e : (itoaB (wrap64 (-acc))).toList = s.toList
      · simp only [if_pos e]; exact Ev.now _
      · simp only [if_neg e]; exact Ev.now _
    · have hc : ¬ t.size < s.size := fun h => c (hn.1 h)
      refine ev_neg (by omega) ?_
      rw [impl_FormatInt.eq _ h2.1 h2.2, if_neg c]
      simp only [Option.bind_some]
      by_cases e : (itoaB acc).toList = s.toList
      · simp only [if_pos e]; exact Ev.now _
      · simp only [if_neg e]; exact Ev.now _
  | succ d ih =>
    intro j acc h1 h2
    refine Ev.step (fun k => by rw [impl_parsed.l0]) ?_
    rw [wadd1 (j := j) (by omega), accD]
    refine ev_pos (by omega) (ev_pos (by omega) ?_)
    by_cases c1 : bt t (j : Int) < 48
    · rw [if_pos c1]; exact ev_pos c1 (Ev.now _)
    · rw [if_neg c1]
      refine ev_neg c1 ?_
      by_cases c2 : bt t (j : Int) > 57
      · rw [if_pos c2]; exact ev_pos c2 (Ev.now _)
      · rw [if_neg c2]
        exact ev_neg c2 (ih (j + 1) _ (by omega) (wrap_range _))
theorem cutB_size (s : ByteArray) : ((cutB s (isNeg s)).size < s.size ↔ isNeg s = true) ∧ (cutB s (isNeg s)).size ≤ s.size := by
  unfold cutB
  by_cases c : isNeg s = true
  · have h : 0 < s.size := by
      unfold isNeg at c
      simp only [Bool.and_eq_true, decide_eq_true_eq] at c
      exact c.1
    rw [if_pos c, extract_size s 1 (by omega)]
    exact ⟨⟨fun _ => c, fun _ => by omega⟩, by omega⟩
  · rw [if_neg c]
    exact ⟨⟨fun h => by omega, fun h => absurd h c⟩, by omega⟩
theorem impl_parsed.ev (s : ByteArray) (m : Int) (hs : s.size ≤ 1048576) : Ev (fun k => impl_parsed.f k s m) (readV s m) := by
  unfold impl_parsed.f readV
  rw [strings_TrimPrefix.minus]
  simp only [Option.bind_some]
  have hc := cutB_size s
  have go := impl_parsed.l0_ev s (cutB s (isNeg s)) (isNeg s) hc.1 (by omega) (cutB s (isNeg s)).size 0 0 (by omega) (by omega)
  by_cases c1 : (cutB s (isNeg s)).size < 1
  · rw [if_pos (.inl c1)]
    refine ev_pos (by omega) (Ev.step (fun k => by rw [impl_parsed.j0]) ?_)
    exact ev_pos rfl (Ev.now _)
  · refine ev_neg (by omega) (Ev.step (fun k => by rw [impl_parsed.j0]) ?_)
    by_cases c2 : ((cutB s (isNeg s)).size : Int) > m
    · rw [if_pos (.inr c2)]
      exact ev_pos (decide_eq_true c2) (Ev.now _)
    · rw [if_neg (by omega)]
      exact ev_neg (by simpa using c2) go

/-! impl_ParseNumber -/
theorem impl_ParseNumber.ev (s : ByteArray) (hs : s.size ≤ 1048576) : Ev (fun k => impl_ParseNumber.f k s) (numV (readV s 6)) := by
  unfold impl_ParseNumber.f numV
  refine Ev.bind (impl_parsed.ev s 6 hs) ?_
  by_cases c : (readV s 6).2 = true
  · simp only [if_pos c]
    by_cases c2 : (readV s 6).1 < 0
    · simp only [if_pos c2]; exact Ev.now _
    · simp only [if_neg c2]; exact Ev.now _
  · simp only [if_neg c]
    exact Ev.now _

end Go.Proofs.YtplmcifjgmcmhaaDoor.PFnExactParseNumber
namespace Go.Proofs.YtplmcifjgmcmhaaDoor.Pure
open Go.RowKit Go.Proofs.YtplmcifjgmcmhaaDoorW.PrintWords Go.Proofs.YtplmcifjgmcmhaaDoorW.PrintLast Go.Proofs.YtplmcifjgmcmhaaDoorW.PrintMore Go.Proofs.YtplmcifjgmcmhaaDoorM
set_option linter.unusedVariables false
set_option linter.unusedSimpArgs false
open Go.Proofs.YtplmcifjgmcmhaaDoor.PFnExactParseNumber
theorem FnExactParseNumber : laws_FnExactParseNumber.Pure := by
  intro a0 ha
  refine Ev.rounds ?_
  unfold laws_FnExactParseNumber.f
  by_cases h : (a0.size : Int) > 1048576
  · exact ev_pos h (Ev.now _)
  · refine ev_neg h (Ev.bind (spec_ParseNumber.ev a0 (by omega)) (Ev.bind (impl_ParseNumber.ev a0 (by omega)) ?_))
    exact ev_pos rfl (ev_neg (by simp) (Ev.now _))

end Go.Proofs.YtplmcifjgmcmhaaDoor.Pure
