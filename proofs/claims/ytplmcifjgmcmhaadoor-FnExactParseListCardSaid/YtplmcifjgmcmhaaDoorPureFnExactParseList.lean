/- The program's ParseList answers what the reference's answers, for every text, and hands out a list of its own (texts of more than 1048576 bytes are let pass by the law itself). No further condition. -/
import Derived.Test.YtplmcifjgmcmhaaDoorPFnExactParseListx1
import Derived.Test.YtplmcifjgmcmhaaDoorPFnExactParseListx2
import Derived.Test.YtplmcifjgmcmhaaDoorPFnExactParseListx3
import Derived.Test.YtplmcifjgmcmhaaDoorPFnExactParseListx4
import Derived.Test.YtplmcifjgmcmhaaDoorM0
import Derived.Test.YtplmcifjgmcmhaaDoorMJ
import Derived.Test.YtplmcifjgmcmhaaDoorMN
import Derived.Test.YtplmcifjgmcmhaaDoorMP
import Derived.Test.YtplmcifjgmcmhaaDoorMS
import Derived.Test.YtplmcifjgmcmhaaDoorMR
import Derived.Test.YtplmcifjgmcmhaaDoorM1
import Derived.Test.YtplmcifjgmcmhaaDoorM2
import Derived.Test.YtplmcifjgmcmhaaDoorM3
import Derived.Test.YtplmcifjgmcmhaaDoorM4
namespace Go.Proofs.YtplmcifjgmcmhaaDoor.PFnExactParseList
open Go.RowKit Go.Proofs.YtplmcifjgmcmhaaDoorW.PrintWords Go.Proofs.YtplmcifjgmcmhaaDoorW.PrintLast Go.Proofs.YtplmcifjgmcmhaaDoorW.PrintMore Go.Proofs.YtplmcifjgmcmhaaDoorM
set_option linter.unusedVariables false
set_option linter.unusedSimpArgs false
/-! laws_eqIntS -/
theorem laws_eqIntS.l0_ev (x y : List Int) (hl : x.length = y.length) (hx : x.length < 4611686018427387904) : ∀ (d j : Nat), j + d = x.length → Ev (fun k => laws_eqIntS.l0 k x y (j : Int)) (B (x.drop j = y.drop j)) := by
  intro d
  induction d with
  | zero =>
    intro j h1
    refine Ev.step (fun k => by rw [laws_eqIntS.l0]) ?_
    rw [B_true (by rw [List.drop_of_length_le (by omega), List.drop_of_length_le (by omega)])]
    exact ev_neg (by omega) (Ev.now _)
  | succ d ih =>
    intro j h1
    have hj : j < x.length := by omega
    have hj' : j < y.length := by omega
    refine Ev.step (fun k => by rw [laws_eqIntS.l0]) ?_
    refine ev_pos (by omega) (ev_pos (by omega) (ev_pos (by omega) ?_))
    rw [wadd1 (by omega), rd_nat, rd_nat, getD_get hj, getD_get hj', List.drop_eq_getElem_cons hj, List.drop_eq_getElem_cons hj']
    by_cases e : x[j] = y[j]
    · refine ev_pos e ?_
      have := ih (j + 1) (by omega)
      rw [B_congr (q := x.drop (j + 1) = y.drop (j + 1)) (by simp only [e, List.cons.injEq, true_and])]
      exact this
    · refine ev_neg e ?_
      rw [B_false (fun h => e (List.cons.inj h).1)]
      exact Ev.now _
theorem laws_eqIntS.ev (x y : List Int) (hx : x.length < 4611686018427387904) : Ev (fun k => laws_eqIntS.f k x y) (B (x = y)) := by
  unfold laws_eqIntS.f
  by_cases e : x.length = y.length
  · refine ev_pos (by omega) ?_
    exact laws_eqIntS.l0_ev x y e hx x.length 0 (by omega)
  · refine ev_neg (by omega) ?_
    rw [B_false (fun h => e (by rw [h]))]
    exact Ev.now _

/-! spec_FormatInt -/
theorem spec_FormatInt.l0_ev : ∀ (n : Nat) (x : Int) (neg : Bool) (s : List UInt8), x.natAbs = n → -9223372036854775808 ≤ x → x ≤ 9223372036854775807 → (s.length + (digs n).length ≤ 100) → Ev (fun k => spec_FormatInt.l0 k x neg ⟨s.toArray⟩) ⟨((if neg = true then [45] else []) ++ (digs n ++ s)).toArray⟩ := by
  intro n
  induction n using Nat.strongRecOn with
  | _ n ih =>
    intro x neg s hx hlo hhi hs
    refine Ev.step (fun k => by rw [spec_FormatInt.l0]) ?_
    by_cases e : x = 0
    · refine ev_pos e ?_
      obtain rfl : n = 0 := by omega
      cases neg with
      | false => exact ev_neg (by simp) (Ev.now _)
      | true =>
        refine ev_pos rfl (ev_pos (by rw [ba_size]; omega) ?_)
        have : (⟨#[45]⟩ : ByteArray) ++ (⟨s.toArray⟩ : ByteArray) = ⟨(([45] : List UInt8) ++ (digs 0 ++ s)).toArray⟩ := ba_append [45] s
        rw [this]
        exact Ev.now _
    · have hn : 0 < n := by omega
      have hl : (digs n).length = (digs (n / 10)).length + 1 := by rw [digs_step hn]; simp
      have hd : (Int.tdiv x 10).natAbs = n / 10 := by rw [Int.natAbs_tdiv, hx]; rfl
      have hb : -9223372036854775808 ≤ Int.tdiv x 10 ∧ Int.tdiv x 10 ≤ 9223372036854775807 := by omega
      have hr : (Int.tmod x 10).natAbs = n % 10 := by rw [Int.natAbs_tmod, hx]; rfl
      have hw : wrap64 (Int.tdiv x 10) = Int.tdiv x 10 := w64 hb.1 hb.2
      have go := ih (n / 10) (by omega) (Int.tdiv x 10) neg (UInt8.ofNat (48 + n % 10) :: s) hd hb.1 hb.2 (by rw [List.length_cons]; omega)
      have e2 : digs (n / 10) ++ UInt8.ofNat (48 + n % 10) :: s = digs n ++ s := by rw [digs_step hn]; simp
      rw [e2] at go
      have one : ∀ z : Int, z = ((48 + n % 10 : Nat) : Int) → strOfNums [z] ++ (⟨s.toArray⟩ : ByteArray) = ⟨(UInt8.ofNat (48 + n % 10) :: s).toArray⟩ := fun z hz => by
        rw [hz, strOfNums_one _ (by omega), ba_append]; rfl
      have sz : ∀ z : Int, z = ((48 + n % 10 : Nat) : Int) → (strOfNums [z]).size = 1 := fun z hz => by
        rw [hz, strOfNums_one _ (by omega), ba_size]; rfl
      refine ev_neg e ?_
      by_cases hm : Int.tmod x 10 < 0
      · have h1 : wrap64 (48 + wrap64 (-Int.tmod x 10)) % 256 = ((48 + n % 10 : Nat) : Int) := by
          rw [w64 (n := -Int.tmod x 10) (by omega) (by omega), w64 (by omega) (by omega)]
          omega
        refine ev_pos hm ?_
        simp only [Option.bind_some]
        rw [hw, one _ h1, sz _ h1]
        exact ev_pos (by rw [ba_size]; omega) go
      · have h1 : wrap64 (48 + Int.tmod x 10) % 256 = ((48 + n % 10 : Nat) : Int) := by
          rw [w64 (by omega) (by omega)]
          omega
        refine ev_neg hm ?_
        simp only [Option.bind_some]
        rw [hw, one _ h1, sz _ h1]
        exact ev_pos (by rw [ba_size]; omega) go
theorem spec_FormatInt.ev (x : Int) (h : -9223372036854775808 ≤ x) (h' : x ≤ 9223372036854775807) : Ev (fun k => spec_FormatInt.f k x) (itoaB x) := by
  unfold spec_FormatInt.f
  by_cases e : x = 0
  · subst e
    have : itoaB 0 = ⟨#[48]⟩ := by simp [itoaB, Lib.itoa, Lib.decDigits]
    rw [this]
    exact ev_pos rfl (Ev.now _)
  · refine ev_neg e ?_
    have := digs_length x.natAbs (by omega)
    have go := spec_FormatInt.l0_ev x.natAbs x (decide (x < 0)) [] rfl h h' (by simp; omega)
    rw [itoaB_of x e]
    simp only [List.append_nil, decide_eq_true_eq] at go
    exact go

/-! spec_l1Read -/
theorem spec_l1Read.l0_ev (s t : ByteArray) (neg : Bool) (ht : t.size < 1000000000000) : ∀ (d j : Nat) (acc : Int), j + d = t.size → (-9223372036854775808 ≤ acc ∧ acc ≤ 9223372036854775807) → Ev (fun k => spec_l1Read.l0 k s neg t acc (j : Int)) (match accD t d j acc with | none => (0, false) | some x => finV s (negV neg x)) := by
  intro d
  induction d with
  | zero =>
    intro j acc h1 h2
    refine Ev.step (fun k => by rw [spec_l1Read.l0]) ?_
    refine ev_neg (by omega) ?_
    show Ev _ (finV s (negV neg acc))
    unfold finV negV
    by_cases c : neg = true
    · refine ev_pos c (Ev.bind (spec_FormatInt.ev _ (wrap_range _).1 (wrap_range _).2) ?_)
      rw [if_pos c]
      by_cases e : (itoaB (wrap64 (-acc))).toList = s.toList
      · simp only [if_pos e]; exact Ev.now _
      · simp only [if_neg e]; exact Ev.now _
    · refine ev_neg c (Ev.bind (spec_FormatInt.ev _ h2.1 h2.2) ?_)
      rw [if_neg c]
      by_cases e : (itoaB acc).toList = s.toList
      · simp only [if_pos e]; exact Ev.now _
      · simp only [if_neg e]; exact Ev.now _
  | succ d ih =>
    intro j acc h1 h2
    refine Ev.step (fun k => by rw [spec_l1Read.l0]) ?_
    rw [wadd1 (j := j) (by omega), accD]
    refine ev_pos (by omega) (ev_pos (by omega) ?_)
    by_cases c1 : bt t (j : Int) < 48
    · rw [if_pos c1]; exact ev_pos c1 (Ev.now _)
    · rw [if_neg c1]
      refine ev_neg c1 ?_
      by_cases c2 : bt t (j : Int) > 57
      · rw [if_pos c2]; exact ev_pos c2 (Ev.now _)
      · rw [if_neg c2]
        exact ev_neg c2 (ih (j + 1) _ (by omega) (wrap_range _))
theorem spec_l1Read.j1_ev (s : ByteArray) (m : Int) (hs : s.size ≤ 1048576) : Ev (fun k => spec_l1Read.j1 k s m (isNeg s) (cutB s (isNeg s))) (readV s m) := by
  have hz : (cutB s (isNeg s)).size ≤ s.size := by
    unfold cutB
    split
    · rw [ByteArray.size_extract]; omega
    · exact Nat.le_refl _
  unfold readV
  have go := spec_l1Read.l0_ev s (cutB s (isNeg s)) (isNeg s) (by omega) (cutB s (isNeg s)).size 0 0 (by omega) (by omega)
  refine Ev.step (fun k => by rw [spec_l1Read.j1]) ?_
  by_cases c1 : (cutB s (isNeg s)).size < 1
  · rw [if_pos (.inl c1)]
    refine ev_pos (by omega) (Ev.step (fun k => by rw [spec_l1Read.j2]) ?_)
    exact ev_pos rfl (Ev.now _)
  · refine ev_neg (by omega) (Ev.step (fun k => by rw [spec_l1Read.j2]) ?_)
    by_cases c2 : ((cutB s (isNeg s)).size : Int) > m
    · rw [if_pos (.inr c2)]
      exact ev_pos (decide_eq_true c2) (Ev.now _)
    · rw [if_neg (by omega)]
      exact ev_neg (by simpa using c2) go
theorem spec_l1Read.j0_ev (s : ByteArray) (m : Int) (hs : s.size ≤ 1048576) : Ev (fun k => spec_l1Read.j0 k s m (isNeg s)) (readV s m) := by
  have go := spec_l1Read.j1_ev s m hs
  refine Ev.step (fun k => by rw [spec_l1Read.j0]) ?_
  by_cases c : isNeg s = true
  · have h : 0 < s.size := by
      unfold isNeg at c
      simp only [Bool.and_eq_true, decide_eq_true_eq] at c
      exact c.1
    have e : cutB s (isNeg s) = s.extract 1 s.size := by unfold cutB; rw [if_pos c]
    rw [e] at go
    exact ev_pos c (ev_pos (by omega) go)
  · have e : cutB s (isNeg s) = s := by unfold cutB; rw [if_neg c]
    rw [e] at go
    exact ev_neg c go
theorem spec_l1Read.ev (s : ByteArray) (m : Int) (hs : s.size ≤ 1048576) : Ev (fun k => spec_l1Read.f k s m) (readV s m) := by
  have go := spec_l1Read.j0_ev s m hs
  unfold spec_l1Read.f
  by_cases h : 0 < s.size
  · have e : (bt s 0 == 45) = isNeg s := by
      unfold isNeg
      rw [decide_eq_true h, Bool.true_and]
      by_cases c : bt s 0 = 45
      · rw [decide_eq_true c, c]; rfl
      · rw [decide_eq_false c]; exact beq_eq_false_iff_ne.2 c
    rw [e]
    exact ev_pos (by omega) (ev_pos (by omega) go)
  · have e : false = isNeg s := by
      unfold isNeg
      rw [decide_eq_false h]
      rfl
    rw [e]
    exact ev_neg (by omega) go

/-! spec_ParseInt -/
theorem spec_ParseInt.ev (s : ByteArray) (hs : s.size ≤ 1048576) : Ev (fun k => spec_ParseInt.f k s) (readV s 12) := by
  unfold spec_ParseInt.f
  exact Ev.bind (spec_l1Read.ev s 12 hs) (Ev.now _)

/-! spec_SplitByte -/
theorem spec_SplitByte.l0_ev (s : ByteArray) (b : Int) (hs : s.size < 1000000000000) : ∀ (d : Nat) (out : List ByteArray) (fr i : Nat), i + d = s.size → fr ≤ i → out.length ≤ i → Ev (fun k => spec_SplitByte.l0 k s b out (fr : Int) (i : Int)) (splitFrom s b d out fr i) := by
  intro d
  induction d with
  | zero =>
    intro out fr i h1 h2 h3
    refine Ev.step (fun k => by rw [spec_SplitByte.l0]) ?_
    refine ev_pos (by omega) (ev_pos (by omega) (ev_pos (by omega) (ev_pos (by omega) (ev_pos (by omega) ?_))))
    rw [wadd1 (by omega)]
    refine Ev.step (fun k => by rw [spec_SplitByte.l0]) ?_
    rw [splitFrom, Int.toNat_natCast, Int.toNat_natCast, show i = s.size by omega]
    exact ev_neg (by omega) (Ev.now _)
  | succ d ih =>
    intro out fr i h1 h2 h3
    refine Ev.step (fun k => by rw [spec_SplitByte.l0]) ?_
    refine ev_pos (by omega) (ev_neg (by omega) (ev_pos (by omega) (ev_pos (by omega) ?_)))
    rw [wadd1 (by omega), splitFrom, Int.toNat_natCast, Int.toNat_natCast]
    by_cases e : bt s (i : Int) = b
    · rw [if_pos e]
      exact ev_pos e (ev_pos (by omega) (ev_pos (by omega) (ev_pos (by omega) (ih _ _ _ (by omega) (by omega) (by simp; omega)))))
    · rw [if_neg e]
      exact ev_neg e (ih _ _ _ (by omega) (by omega) (by omega))
theorem spec_SplitByte.ev (s : ByteArray) (b : Int) (hs : s.size < 1000000000000) : Ev (fun k => spec_SplitByte.f k s b) (splitV s b) := by
  unfold spec_SplitByte.f splitV
  exact spec_SplitByte.l0_ev s b hs s.size [] 0 0 (by omega) (by omega) (by simp)

/-! spec_ParseList -/
theorem spec_ParseList.none_ev (s : ByteArray) (hs : s.toList = [110, 111, 110, 101]) (ps : List ByteArray) : Ev (fun k => spec_ParseList.l0 k s [] ps 0) ([], true) := by
  refine Ev.step (fun k => by rw [spec_ParseList.l0]) ?_
  rw [hs]
  by_cases c : (0 : Int) < (ps.length : Int)
  · refine ev_pos c (Ev.step (fun k => by rw [spec_ParseList.j1]) ?_)
    exact ev_neg (by decide) (Ev.now _)
  · refine ev_neg c (Ev.step (fun k => by rw [spec_ParseList.j1]) ?_)
    exact ev_neg (by decide) (Ev.now _)
theorem spec_ParseList.l0_ev (s : ByteArray) (hs : ¬ s.toList = [110, 111, 110, 101]) (ps : List ByteArray) (hp : ∀ p ∈ ps, p.size ≤ 1048576) (hl : ps.length ≤ 1048577) : ∀ (d j : Nat) (acc : List Int), j + d = ps.length → acc.length ≤ j → Ev (fun k => spec_ParseList.l0 k s acc ps (j : Int)) (readFrom ps d j acc) := by
  have hb : (s.toList != ([110, 111, 110, 101] : List UInt8)) = true := by simpa using hs
  intro d
  induction d with
  | zero =>
    intro j acc h1 h2
    refine Ev.step (fun k => by rw [spec_ParseList.l0]) ?_
    refine ev_neg (by omega) (Ev.step (fun k => by rw [spec_ParseList.j1]) ?_)
    exact ev_neg (by simp) (Ev.now _)
  | succ d ih =>
    intro j acc h1 h2
    refine Ev.step (fun k => by rw [spec_ParseList.l0]) ?_
    refine ev_pos (by omega) (Ev.step (fun k => by rw [spec_ParseList.j1]) ?_)
    rw [hb, wadd1 (j := j) (by omega), rdOf_nat, readFrom]
    refine ev_pos rfl (ev_pos (by omega) (ev_pos (by omega) (Ev.bind (spec_ParseInt.ev _ (part_small hp j)) ?_)))
    by_cases c : (readV (ps.getD j ByteArray.empty) 12).2 = true
    · rw [if_pos c]
      exact ev_pos c (ev_pos (by omega) (ih (j + 1) _ (by omega) (by simp; omega)))
    · rw [if_neg c]
      exact ev_neg c (Ev.now _)
theorem spec_ParseList.ev (s : ByteArray) (hs : s.size ≤ 1048576) : Ev (fun k => spec_ParseList.f k s) (parseLV s) := by
  unfold spec_ParseList.f parseLV
  refine Ev.bind (spec_SplitByte.ev s 44 (by omega)) ?_
  have hl := splitV_length s 44
  by_cases c : s.toList = [110, 111, 110, 101]
  · rw [if_pos c]
    exact spec_ParseList.none_ev s c _
  · rw [if_neg c]
    exact spec_ParseList.l0_ev s c _ (fun p hp => Nat.le_trans (splitV_small s 44 p hp) hs) (by omega) _ 0 [] (by omega) (by simp)

/-! impl_FormatInt -/
theorem impl_FormatInt.eq (x : Int) (h : -9223372036854775808 ≤ x) (h' : x ≤ 9223372036854775807) : impl_FormatInt.f x = some (itoaB x) := by
  unfold impl_FormatInt.f strconv_Itoa_45.f
  rw [if_pos ⟨h, h'⟩]
  rfl

/-! strings_TrimPrefix -/
theorem strings_TrimPrefix.minus (s : ByteArray) : strings_TrimPrefix.f s (⟨#[45]⟩ : ByteArray) = some (cutB s (isNeg s)) := by
  have e1 : (⟨#[45]⟩ : ByteArray).size = 1 := rfl
  unfold strings_TrimPrefix.f stringslite_TrimPrefix.f stringslite_HasPrefix.f
  simp only [e1]
  by_cases h : 1 ≤ s.size
  · rw [if_pos (by omega), if_pos (by omega), if_pos (by omega)]
    have hp := prefix_neg s h
    have e2 : ((1 : Nat) : Int).toNat = 1 := rfl
    simp only [e2, Option.bind_some]
    rw [hp]
    unfold cutB
    by_cases c : isNeg s = true
    · rw [if_pos c, if_pos c, if_pos (by omega), if_pos (by omega)]; rfl
    · rw [if_neg c, if_neg c]; rfl
  · have c : isNeg s = false := by
      unfold isNeg
      rw [decide_eq_false (by omega)]
      rfl
    rw [if_neg (by omega)]
    simp only [Option.bind_some]
    rw [c]
    rfl

/-! impl_parsed -/
theorem impl_parsed.l0_ev (s t : ByteArray) (neg : Bool) (hn : (t.size < s.size) ↔ neg = true) (ht : t.size < 1000000000000) : ∀ (d j : Nat) (acc : Int), j + d = t.size → (-9223372036854775808 ≤ acc ∧ acc ≤ 9223372036854775807) → Ev (fun k => impl_parsed.l0 k s t acc (j : Int)) (match accD t d j acc with | none => (0, false) | some x => finV s (negV neg x)) := by
  intro d
  induction d with
  | zero =>
    intro j acc h1 h2
    refine Ev.step (fun k => by rw [impl_parsed.l0]) ?_
    refine ev_neg (by omega) ?_
    show Ev _ (finV s (negV neg acc))
    unfold finV negV
    by_cases c : neg = true
    · have hc := hn.2 c
      refine ev_pos (by omega) ?_
      rw [impl_FormatInt.eq _ (wrap_range _).1 (wrap_range _).2, if_pos c]
      simp only [Option.bind_some]
      by_cases e : (itoaB (wrap64 (-acc))).toList = s.toList
      · simp only [if_pos e]; exact Ev.now _
      · simp only [if_neg e]; exact Ev.now _
    · have hc : ¬ t.size < s.size := fun h => c (hn.1 h)
      refine ev_neg (by omega) ?_
      rw [impl_FormatInt.eq _ h2.1 h2.2, if_neg c]
      simp only [Option.bind_some]
      by_cases e : (itoaB acc).toList = s.toList
      · simp only [if_pos e]; exact Ev.now _
      · simp only [if_neg e]; exact Ev.now _
  | succ d ih =>
    intro j acc h1 h2
    refine Ev.step (fun k => by rw [impl_parsed.l0]) ?_
    rw [wadd1 (j := j) (by omega), accD]
    refine ev_pos (by omega) (ev_pos (by omega) ?_)
    by_cases c1 : bt t (j : Int) < 48
    · rw [if_pos c1]; exact ev_pos c1 (Ev.now _)
    · rw [if_neg c1]
      refine ev_neg c1 ?_
      by_cases c2 : bt t (j : Int) > 57
      · rw [if_pos c2]; exact ev_pos c2 (Ev.now _)
      · rw [if_neg c2]
        exact ev_neg c2 (ih (j + 1) _ (by omega) (wrap_range _))
theorem cutB_size (s : ByteArray) : ((cutB s (isNeg s)).size < s.size ↔ isNeg s = true) ∧ (cutB s (isNeg s)).size ≤ s.size := by
  unfold cutB
  by_cases c : isNeg s = true
  · have h : 0 < s.size := by
      unfold isNeg at c
      simp only [Bool.and_eq_true, decide_eq_true_eq] at c
      exact c.1
    rw [if_pos c, extract_size s 1 (by omega)]
    exact ⟨⟨fun _ => c, fun _ => by omega⟩, by omega⟩
  · rw [if_neg c]
    exact ⟨⟨fun h => by omega, fun h => absurd h c⟩, by omega⟩
theorem impl_parsed.ev (s : ByteArray) (m : Int) (hs : s.size ≤ 1048576) : Ev (fun k => impl_parsed.f k s m) (readV s m) := by
  unfold impl_parsed.f readV
  rw [strings_TrimPrefix.minus]
  simp only [Option.bind_some]
  have hc := cutB_size s
  have go := impl_parsed.l0_ev s (cutB s (isNeg s)) (isNeg s) hc.1 (by omega) (cutB s (isNeg s)).size 0 0 (by omega) (by omega)
  by_cases c1 : (cutB s (isNeg s)).size < 1
  · rw [if_pos (.inl c1)]
    refine ev_pos (by omega) (Ev.step (fun k => by rw [impl_parsed.j0]) ?_)
    exact ev_pos rfl (Ev.now _)
  · refine ev_neg (by omega) (Ev.step (fun k => by rw [impl_parsed.j0]) ?_)
    by_cases c2 : ((cutB s (isNeg s)).size : Int) > m
    · rw [if_pos (.inr c2)]
      exact ev_pos (decide_eq_true c2) (Ev.now _)
    · rw [if_neg (by omega)]
      exact ev_neg (by simpa using c2) go

/-! impl_ParseInt -/
theorem impl_ParseInt.ev (s : ByteArray) (hs : s.size ≤ 1048576) : Ev (fun k => impl_ParseInt.f k s) (readV s 12) := by
  unfold impl_ParseInt.f
  exact Ev.bind (impl_parsed.ev s 12 hs) (Ev.now _)

/-! impl_SplitByte -/
theorem impl_SplitByte.l0_ev (s : ByteArray) (b : Int) (hs : s.size < 1000000000000) : ∀ (d : Nat) (out : List ByteArray) (fr i : Nat), i + d = s.size → fr ≤ i → out.length ≤ i → Ev (fun k => impl_SplitByte.l0 k s b out (fr : Int) (i : Int)) (splitFrom s b d out fr i) := by
  intro d
  induction d with
  | zero =>
    intro out fr i h1 h2 h3
    refine Ev.step (fun k => by rw [impl_SplitByte.l0]) ?_
    rw [splitFrom, Int.toNat_natCast]
    exact ev_neg (by omega) (ev_pos (by omega) (ev_pos (by omega) (ev_pos (by omega) (Ev.now _))))
  | succ d ih =>
    intro out fr i h1 h2 h3
    refine Ev.step (fun k => by rw [impl_SplitByte.l0]) ?_
    refine ev_pos (by omega) (ev_pos (by omega) ?_)
    rw [wadd1 (by omega), splitFrom, Int.toNat_natCast, Int.toNat_natCast]
    by_cases e : bt s (i : Int) = b
    · rw [if_pos e]
      exact ev_pos e (ev_pos (by omega) (ev_pos (by omega) (ev_pos (by omega) (ev_pos (by omega) (ih _ _ _ (by omega) (by omega) (by simp; omega))))))
    · rw [if_neg e]
      exact ev_neg e (ih _ _ _ (by omega) (by omega) (by omega))
theorem impl_SplitByte.ev (s : ByteArray) (b : Int) (hs : s.size < 1000000000000) : Ev (fun k => impl_SplitByte.f k s b) (splitV s b) := by
  unfold impl_SplitByte.f splitV
  exact impl_SplitByte.l0_ev s b hs s.size [] 0 0 (by omega) (by omega) (by simp)

/-! impl_ParseList -/
theorem impl_ParseList.l0_ev (ps : List ByteArray) (hp : ∀ p ∈ ps, p.size ≤ 1048576) (hl : ps.length ≤ 1048577) : ∀ (d j : Nat) (acc : List Int), j + d = ps.length → acc.length ≤ j → Ev (fun k => impl_ParseList.l0 k acc ps (ps.length : Int) (j : Int)) (readFrom ps d j acc) := by
  intro d
  induction d with
  | zero =>
    intro j acc h1 h2
    refine Ev.step (fun k => by rw [impl_ParseList.l0]) ?_
    exact ev_neg (by omega) (Ev.now _)
  | succ d ih =>
    intro j acc h1 h2
    refine Ev.step (fun k => by rw [impl_ParseList.l0]) ?_
    rw [wadd1 (j := j) (by omega), rdOf_nat, readFrom]
    refine ev_pos (by omega) (ev_pos (by omega) (ev_pos (by omega) (Ev.bind (impl_ParseInt.ev _ (part_small hp j)) ?_)))
    by_cases c : (readV (ps.getD j ByteArray.empty) 12).2 = true
    · rw [if_pos c]
      exact ev_pos c (ev_pos (by omega) (ih (j + 1) _ (by omega) (by simp; omega)))
    · rw [if_neg c]
      exact ev_neg c (Ev.now _)
theorem impl_ParseList.ev (s : ByteArray) (hs : s.size ≤ 1048576) : Ev (fun k => impl_ParseList.f k s) (parseLV s) := by
  unfold impl_ParseList.f parseLV
  simp only [Option.bind_some]
  have hl := splitV_length s 44
  by_cases c : s.toList = [110, 111, 110, 101]
  · rw [if_pos c]
    exact ev_pos c (Ev.now _)
  · rw [if_neg c]
    refine ev_neg c (Ev.bind (impl_SplitByte.ev s 44 (by omega)) ?_)
    exact impl_ParseList.l0_ev _ (fun p hp => Nat.le_trans (splitV_small s 44 p hp) hs) (by omega) _ 0 [] (by omega) (by simp)

/-! laws_markIntS -/
theorem laws_markIntS.l0_ev (m : Int) (hm : 0 ≤ m) (hm' : m ≤ 1000000000) : ∀ (d j : Nat) (x : List Int), j + d = x.length → x.length < 1000000000000 → x.take j = marksI j m → Ev (fun k => laws_markIntS.l0 k x (m + j) (j : Int)) (m + x.length, marksI x.length m) := by
  intro d
  induction d with
  | zero =>
    intro j x h1 h2 h3
    refine Ev.step (fun k => by rw [laws_markIntS.l0]) ?_
    rw [List.take_of_length_le (by omega)] at h3
    have e : j = x.length := by omega
    subst e
    rw [← h3]
    exact ev_neg (by omega) (Ev.now _)
  | succ d ih =>
    intro j x h1 h2 h3
    refine Ev.step (fun k => by rw [laws_markIntS.l0]) ?_
    have e : Box (wrap64 (m + (j : Int) + 1) = m + ((j + 1 : Nat) : Int)) := ⟨by rw [w64 (by omega) (by omega)]; omega⟩
    rw [wadd1 (by omega), e.out, Int.toNat_natCast]
    refine ev_pos (by omega) (ev_pos (by omega) ?_)
    have := ih (j + 1) (x.set j (m + j)) (by simp; omega) (by simp; omega) (by
      rw [marksI_snoc, ← h3, List.take_succ_eq_append_getElem (by simp; omega), List.take_set_of_le (by omega)]
      simp)
    simpa using this
theorem laws_markIntS.ev (x : List Int) (hx : x.length < 1000000000000) (m : Int) (hm : 0 ≤ m) (hm' : m ≤ 1000000000) : Ev (fun k => laws_markIntS.f k x m) (m + x.length, marksI x.length m) := by
  unfold laws_markIntS.f
  have := laws_markIntS.l0_ev m hm hm' x.length 0 x (by omega) hx (by simp [marksI])
  simpa using this

/-! laws_heldIntS -/
theorem laws_heldIntS.l0_ev (m : Int) (hm : 0 ≤ m) (hm' : m ≤ 1000000000) (n : Nat) (hn : n < 1000000000000) : ∀ (d j : Nat), j + d = n → Ev (fun k => laws_heldIntS.l0 k (marksI n m) (m + j) (j : Int)) (m + n) := by
  intro d
  induction d with
  | zero =>
    intro j h1
    refine Ev.step (fun k => by rw [laws_heldIntS.l0]) ?_
    have e : j = n := by omega
    subst e
    exact ev_neg (by rw [marksI_length]; omega) (Ev.now _)
  | succ d ih =>
    intro j h1
    refine Ev.step (fun k => by rw [laws_heldIntS.l0]) ?_
    have e : Box (wrap64 (m + (j : Int) + 1) = m + ((j + 1 : Nat) : Int)) := ⟨by rw [w64 (by omega) (by omega)]; omega⟩
    rw [wadd1 (by omega), e.out, rd_nat, marksI_get n m j (by omega)]
    exact ev_pos (by rw [marksI_length]; omega) (ev_pos (by omega) (ev_pos rfl (ih (j + 1) (by omega))))
theorem laws_heldIntS.ev (n : Nat) (hn : n < 1000000000000) (m : Int) (hm : 0 ≤ m) (hm' : m ≤ 1000000000) : Ev (fun k => laws_heldIntS.f k (marksI n m) m) (m + n) := by
  unfold laws_heldIntS.f
  have := laws_heldIntS.l0_ev m hm hm' n hn n 0 (by omega)
  simpa using this

end Go.Proofs.YtplmcifjgmcmhaaDoor.PFnExactParseList
namespace Go.Proofs.YtplmcifjgmcmhaaDoor.Pure
open Go.RowKit Go.Proofs.YtplmcifjgmcmhaaDoorW.PrintWords Go.Proofs.YtplmcifjgmcmhaaDoorW.PrintLast Go.Proofs.YtplmcifjgmcmhaaDoorW.PrintMore Go.Proofs.YtplmcifjgmcmhaaDoorM
set_option linter.unusedVariables false
set_option linter.unusedSimpArgs false
open Go.Proofs.YtplmcifjgmcmhaaDoor.PFnExactParseList
theorem FnExactParseList : laws_FnExactParseList.Pure := by
  intro a0 ha
  refine Ev.rounds ?_
  unfold laws_FnExactParseList.f
  by_cases h : (a0.size : Int) > 1048576
  · exact ev_pos h (Ev.now _)
  · have hx : a0.size ≤ 1048576 := by omega
    have hl := parseLV_length a0
    refine ev_neg h (Ev.bind (spec_ParseList.ev a0 hx) (Ev.bind (impl_ParseList.ev a0 hx) (Ev.bind (laws_eqIntS.ev _ _ (by omega)) ?_)))
    rw [B_true rfl]
    refine ev_pos rfl ?_
    rw [bne_self_eq_false]
    refine Ev.step (fun k => by rw [laws_FnExactParseList.j0]) ?_
    refine ev_neg (by simp) ?_
    refine Ev.bind (laws_markIntS.ev (parseLV a0).1 (by omega) 1 (by omega) (by omega)) ?_
    refine Ev.bind (laws_heldIntS.ev _ (by omega) 1 (by omega) (by omega)) ?_
    refine ev_neg (by omega) (ev_pos rfl ?_)
    refine Ev.bind (impl_ParseList.ev a0 hx) (Ev.bind (laws_eqIntS.ev _ _ (by omega)) ?_)
    rw [B_true rfl]
    refine ev_pos rfl ?_
    rw [bne_self_eq_false]
    refine Ev.step (fun k => by rw [laws_FnExactParseList.j1]) ?_
    refine ev_neg (by simp) ?_
    refine Ev.bind (laws_heldIntS.ev _ (by omega) 1 (by omega) (by omega)) ?_
    exact ev_neg (by omega) (ev_pos rfl (Ev.now _))

end Go.Proofs.YtplmcifjgmcmhaaDoor.Pure
