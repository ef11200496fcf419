/- The program's FormatInt answers what the reference's answers, for every number. No further condition. -/
import Derived.Test.YtplmcifjgmcmhaaDoorPFnExactFormatIntx1
import Derived.Test.YtplmcifjgmcmhaaDoorM0
import Derived.Test.YtplmcifjgmcmhaaDoorMJ
import Derived.Test.YtplmcifjgmcmhaaDoorMN
namespace Go.Proofs.YtplmcifjgmcmhaaDoor.PFnExactFormatInt
open Go.RowKit Go.Proofs.YtplmcifjgmcmhaaDoorW.PrintWords Go.Proofs.YtplmcifjgmcmhaaDoorW.PrintLast Go.Proofs.YtplmcifjgmcmhaaDoorW.PrintMore Go.Proofs.YtplmcifjgmcmhaaDoorM
set_option linter.unusedVariables false
set_option linter.unusedSimpArgs false
/-! spec_FormatInt -/
theorem spec_FormatInt.l0_ev : ∀ (n : Nat) (x : Int) (neg : Bool) (s : List UInt8), x.natAbs = n → -9223372036854775808 ≤ x → x ≤ 9223372036854775807 → (s.length + (digs n).length ≤ 100) → Ev (fun k => spec_FormatInt.l0 k x neg ⟨s.toArray⟩) ⟨((if neg = true then [45] else []) ++ (digs n ++ s)).toArray⟩ := by
  intro n
  induction n using Nat.strongRecOn with
  | _ n ih =>
    intro x neg s hx hlo hhi hs
    refine Ev.step (fun k => by rw [spec_FormatInt.l0]) ?_
    by_cases e : x = 0
    · refine ev_pos e ?_
      obtain rfl : n = 0 := by omega
      cases neg with
      | false => exact ev_neg (by simp) (Ev.now _)
      | true =>
        refine ev_pos rfl (ev_pos (by rw [ba_size]; omega) ?_)
        have : (⟨#[45]⟩ : ByteArray) ++ (⟨s.toArray⟩ : ByteArray) = ⟨(([45] : List UInt8) ++ (digs 0 ++ s)).toArray⟩ := ba_append [45] s
        rw [this]
        exact Ev.now _
    · have hn : 0 < n := by omega
      have hl : (digs n).length = (digs (n / 10)).length + 1 := by rw [digs_step hn]; simp
      have hd : (Int.tdiv x 10).natAbs = n / 10 := by rw [Int.natAbs_tdiv, hx]; rfl
      have hb : -9223372036854775808 ≤ Int.tdiv x 10 ∧ Int.tdiv x 10 ≤ 9223372036854775807 := by omega
      have hr : (Int.tmod x 10).natAbs = n % 10 := by rw [Int.natAbs_tmod, hx]; rfl
      have hw : wrap64 (Int.tdiv x 10) = Int.tdiv x 10 := w64 hb.1 hb.2
      have go := ih (n / 10) (by omega) (Int.tdiv x 10) neg (UInt8.ofNat (48 + n % 10) :: s) hd hb.1 hb.2 (by rw [List.length_cons]; omega)
      have e2 : digs (n / 10) ++ UInt8.ofNat (48 + n % 10) :: s = digs n ++ s := by rw [digs_step hn]; simp
      rw [e2] at go
      have one : ∀ z : Int, z = ((48 + n % 10 : Nat) : Int) → strOfNums [z] ++ (⟨s.toArray⟩ : ByteArray) = ⟨(UInt8.ofNat (48 + n % 10) :: s).toArray⟩ := fun z hz => by
        rw [hz, strOfNums_one _ (by omega), ba_append]; rfl
      have sz : ∀ z : Int, z = ((48 + n % 10 : Nat) : Int) → (strOfNums [z]).size = 1 := fun z hz => by
        rw [hz, strOfNums_one _ (by omega), ba_size]; rfl
      refine ev_neg e ?_
      by_cases hm : Int.tmod x 10 < 0
      · have h1 : wrap64 (48 + wrap64 (-Int.tmod x 10)) % 256 = ((48 + n % 10 : Nat) : Int) := by
          rw [w64 (n := -Int.tmod x 10) (by omega) (by omega), w64 (by omega) (by omega)]
          omega
        refine ev_pos hm ?_
        simp only [Option.bind_some]
        rw [hw, one _ h1, sz _ h1]
        exact ev_pos (by rw [ba_size]; omega) go
      · have h1 : wrap64 (48 + Int.tmod x 10) % 256 = ((48 + n % 10 : Nat) : Int) := by
          rw [w64 (by omega) (by omega)]
          omega
        refine ev_neg hm ?_
        simp only [Option.bind_some]
        rw [hw, one _ h1, sz _ h1]
        exact ev_pos (by rw [ba_size]; omega) go
theorem spec_FormatInt.ev (x : Int) (h : -9223372036854775808 ≤ x) (h' : x ≤ 9223372036854775807) : Ev (fun k => spec_FormatInt.f k x) (itoaB x) := by
  unfold spec_FormatInt.f
  by_cases e : x = 0
  · subst e
    have : itoaB 0 = ⟨#[48]⟩ := by simp [itoaB, Lib.itoa, Lib.decDigits]
    rw [this]
    exact ev_pos rfl (Ev.now _)
  · refine ev_neg e ?_
    have := digs_length x.natAbs (by omega)
    have go := spec_FormatInt.l0_ev x.natAbs x (decide (x < 0)) [] rfl h h' (by simp; omega)
    rw [itoaB_of x e]
    simp only [List.append_nil, decide_eq_true_eq] at go
    exact go

/-! impl_FormatInt -/
theorem impl_FormatInt.eq (x : Int) (h : -9223372036854775808 ≤ x) (h' : x ≤ 9223372036854775807) : impl_FormatInt.f x = some (itoaB x) := by
  unfold impl_FormatInt.f strconv_Itoa_45.f
  rw [if_pos ⟨h, h'⟩]
  rfl

end Go.Proofs.YtplmcifjgmcmhaaDoor.PFnExactFormatInt
namespace Go.Proofs.YtplmcifjgmcmhaaDoor.Pure
open Go.RowKit Go.Proofs.YtplmcifjgmcmhaaDoorW.PrintWords Go.Proofs.YtplmcifjgmcmhaaDoorW.PrintLast Go.Proofs.YtplmcifjgmcmhaaDoorW.PrintMore Go.Proofs.YtplmcifjgmcmhaaDoorM
set_option linter.unusedVariables false
set_option linter.unusedSimpArgs false
open Go.Proofs.YtplmcifjgmcmhaaDoor.PFnExactFormatInt
theorem FnExactFormatInt : laws_FnExactFormatInt.Pure := by
  intro a0 ha
  obtain ⟨h1, h2⟩ := wf64 ha
  refine Ev.rounds ?_
  unfold laws_FnExactFormatInt.f
  refine Ev.bind (spec_FormatInt.ev a0 h1 h2) ?_
  rw [impl_FormatInt.eq a0 h1 h2]
  simp only [Option.bind_some]
  exact ev_pos (by trivial) (Ev.now _)

end Go.Proofs.YtplmcifjgmcmhaaDoor.Pure
