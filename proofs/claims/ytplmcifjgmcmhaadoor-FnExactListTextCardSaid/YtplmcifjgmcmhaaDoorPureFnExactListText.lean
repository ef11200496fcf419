/- The program's ListText answers what the reference's answers, for every list of numbers (lists of more than 1048576 numbers are let pass by the law itself). No further condition. -/
import Derived.Test.YtplmcifjgmcmhaaDoorPFnExactListTextx1
import Derived.Test.YtplmcifjgmcmhaaDoorPFnExactListTextx2
import Derived.Test.YtplmcifjgmcmhaaDoorM0
import Derived.Test.YtplmcifjgmcmhaaDoorMJ
import Derived.Test.YtplmcifjgmcmhaaDoorMN
namespace Go.Proofs.YtplmcifjgmcmhaaDoor.PFnExactListText
open Go.RowKit Go.Proofs.YtplmcifjgmcmhaaDoorW.PrintWords Go.Proofs.YtplmcifjgmcmhaaDoorW.PrintLast Go.Proofs.YtplmcifjgmcmhaaDoorW.PrintMore Go.Proofs.YtplmcifjgmcmhaaDoorM
set_option linter.unusedVariables false
set_option linter.unusedSimpArgs false
/-! spec_FormatInt -/
theorem spec_FormatInt.l0_ev : ∀ (n : Nat) (x : Int) (neg : Bool) (s : List UInt8), x.natAbs = n → -9223372036854775808 ≤ x → x ≤ 9223372036854775807 → (s.length + (digs n).length ≤ 100) → Ev (fun k => spec_FormatInt.l0 k x neg ⟨s.toArray⟩) ⟨((if neg = true then [45] else []) ++ (digs n ++ s)).toArray⟩ := by
  intro n
  induction n using Nat.strongRecOn with
  | _ n ih =>
    intro x neg s hx hlo hhi hs
    refine Ev.step (fun k => by rw [spec_FormatInt.l0]) ?_
    by_cases e : x = 0
    · refine ev_pos e ?_
      obtain rfl : n = 0 := by omega
      cases neg with
      | false => exact ev_neg (by simp) (Ev.now _)
      | true =>
        refine ev_pos rfl (ev_pos (by rw [ba_size]; omega) ?_)
        have : (⟨#[45]⟩ : ByteArray) ++ (⟨s.toArray⟩ : ByteArray) = ⟨(([45] : List UInt8) ++ (digs 0 ++ s)).toArray⟩ := ba_append [45] s
        rw [this]
        exact Ev.now _
    · have hn : 0 < n := by omega
      have hl : (digs n).length = (digs (n / 10)).length + 1 := by rw [digs_step hn]; simp
      have hd : (Int.tdiv x 10).natAbs = n / 10 := by rw [Int.natAbs_tdiv, hx]; rfl
      have hb : -9223372036854775808 ≤ Int.tdiv x 10 ∧ Int.tdiv x 10 ≤ 9223372036854775807 := by omega
      have hr : (Int.tmod x 10).natAbs = n % 10 := by rw [Int.natAbs_tmod, hx]; rfl
      have hw : wrap64 (Int.tdiv x 10) = Int.tdiv x 10 := w64 hb.1 hb.2
      have go := ih (n / 10) (by omega) (Int.tdiv x 10) neg (UInt8.ofNat (48 + n % 10) :: s) hd hb.1 hb.2 (by rw [List.length_cons]; omega)
      have e2 : digs (n / 10) ++ UInt8.ofNat (48 + n % 10) :: s = digs n ++ s := by rw [digs_step hn]; simp
      rw [e2] at go
      have one : ∀ z : Int, z = ((48 + n % 10 : Nat) : Int) → strOfNums [z] ++ (⟨s.toArray⟩ : ByteArray) = ⟨(UInt8.ofNat (48 + n % 10) :: s).toArray⟩ := fun z hz => by
        rw [hz, strOfNums_one _ (by omega), ba_append]; rfl
      have sz : ∀ z : Int, z = ((48 + n % 10 : Nat) : Int) → (strOfNums [z]).size = 1 := fun z hz => by
        rw [hz, strOfNums_one _ (by omega), ba_size]; rfl
      refine ev_neg e ?_
      by_cases hm : Int.tmod x 10 < 0
      · have h1 : wrap64 (48 + wrap64 (-Int.tmod x 10)) % 256 = ((48 + n % 10 : Nat) : Int) := by
          rw [w64 (n := -Int.tmod x 10) (by omega) (by omega), w64 (by omega) (by omega)]
          omega
        refine ev_pos hm ?_
        simp only [Option.bind_some]
        rw [hw, one _ h1, sz _ h1]
        exact ev_pos (by rw [ba_size]; omega) go
      · have h1 : wrap64 (48 + Int.tmod x 10) % 256 = ((48 + n % 10 : Nat) : Int) := by
          rw [w64 (by omega) (by omega)]
          omega
        refine ev_neg hm ?_
        simp only [Option.bind_some]
        rw [hw, one _ h1, sz _ h1]
        exact ev_pos (by rw [ba_size]; omega) go
theorem spec_FormatInt.ev (x : Int) (h : -9223372036854775808 ≤ x) (h' : x ≤ 9223372036854775807) : Ev (fun k => spec_FormatInt.f k x) (itoaB x) := by
  unfold spec_FormatInt.f
  by_cases e : x = 0
  · subst e
    have : itoaB 0 = ⟨#[48]⟩ := by simp [itoaB, Lib.itoa, Lib.decDigits]
    rw [this]
    exact ev_pos rfl (Ev.now _)
  · refine ev_neg e ?_
    have := digs_length x.natAbs (by omega)
    have go := spec_FormatInt.l0_ev x.natAbs x (decide (x < 0)) [] rfl h h' (by simp; omega)
    rw [itoaB_of x e]
    simp only [List.append_nil, decide_eq_true_eq] at go
    exact go

/-! spec_Join -/
theorem spec_Join.l0_ev (l : List ByteArray) (b : ByteArray) (hl : l.length ≤ 1048576) (hb : b.size ≤ 1048576) (hs : Lib.lens (l.map (·.data.toList)) ≤ 1000000000) : ∀ (d j : Nat), j + d = l.length → Ev (fun k => spec_Join.l0 k l b (bnums (joinK l b j)) (j : Int)) ⟨(joinK l b l.length).toArray⟩ := by
  have hm : b.size * l.length ≤ 1048576 * 1048576 := Nat.mul_le_mul hb hl
  have sz : ∀ j (hj : j < l.length), (l[j]).size ≤ 1000000000 := fun j hj => by
    have h1 := Lib.lens_take_succ (l.map (·.data.toList)) j (l[j]).data.toList (by simp [hj])
    have h2 := Lib.lens_take_le (l.map (·.data.toList)) (j + 1)
    have h3 : (l[j]).data.toList.length = (l[j]).size := data_length _
    omega
  intro d
  induction d with
  | zero =>
    intro j h1
    obtain rfl : j = l.length := by omega
    refine Ev.step (fun k => by rw [spec_Join.l0]) ?_
    refine ev_neg (by omega) ?_
    rw [strOfNums_bnums]
    exact Ev.now _
  | succ d ih =>
    intro j h1
    have hj : j < l.length := by omega
    have hk := joinK_length l b j
    have hn := ih (j + 1) (by omega)
    have e0 : l.getD j ByteArray.empty = l[j] := by simp [List.getD_eq_getElem?_getD, hj]
    have hx := sz j hj
    have hnl := bnums_length (joinK l b j)
    have hbl := bytesOf_length b
    refine Ev.step (fun k => by rw [spec_Join.l0]) ?_
    rw [wadd1 (j := j) (by omega), rdOf_nat, e0]
    refine ev_pos (by omega) ?_
    by_cases c : j = 0
    · subst c
      refine ev_neg (by omega) (ev_pos (by omega) (ev_pos (by omega) ?_))
      rw [joinK_zero, bnums_bytes]
      rw [joinK_one b hj] at hn
      exact hn
    · refine ev_pos (by omega) (ev_pos (by omega) ?_)
      simp only [Option.bind_some]
      refine ev_pos (by omega) (ev_pos (by rw [List.length_append]; omega) ?_)
      rw [joinK_succ b (by omega) hj, bnums_append, bnums_append] at hn
      rw [bnums_bytes, bnums_bytes]
      exact hn
theorem spec_Join.evB (l : List ByteArray) (b : ByteArray) (hl : l.length ≤ 1048576) (hb : b.size ≤ 1048576) (hs : Lib.lens (l.map (·.data.toList)) ≤ 1000000000) : Ev (fun k => spec_Join.f k l b) ⟨(Lib.join (l.map (·.data.toList)) b.data.toList).toArray⟩ := by
  have := spec_Join.l0_ev l b hl hb hs l.length 0 (by omega)
  unfold joinK at this
  rw [List.take_length] at this
  unfold spec_Join.f
  exact this
theorem spec_Join.ev (l : List ByteArray) (b : ByteArray) (hl : l.length ≤ 1048576) (hb : b.size ≤ 1048576) (hs : Lib.lens (l.map (·.data.toList)) ≤ 1048576) : Ev (fun k => spec_Join.f k l b) ⟨(Lib.join (l.map (·.data.toList)) b.data.toList).toArray⟩ := spec_Join.evB l b hl hb (by omega)

/-! spec_ListText -/
theorem spec_ListText.l0_ev (l : List Int) (hl : l.length ≤ 1048576) (hw : ∀ x ∈ l, -9223372036854775808 ≤ x ∧ x ≤ 9223372036854775807) : ∀ (d j : Nat), j + d = l.length → Ev (fun k => spec_ListText.l0 k l ((l.take j).map itoaB) (j : Int)) ⟨(Lib.join ((l.map itoaB).map (·.data.toList)) [44]).toArray⟩ := by
  intro d
  induction d with
  | zero =>
    intro j h1
    obtain rfl : j = l.length := by omega
    refine Ev.step (fun k => by rw [spec_ListText.l0]) ?_
    refine ev_neg (by omega) ?_
    rw [List.take_length]
    have hz := lens_texts l hw
    exact Ev.bind (spec_Join.evB (l.map itoaB) ⟨#[44]⟩ (by simpa using hl) (by decide) (by omega)) (Ev.now _)
  | succ d ih =>
    intro j h1
    have hj : j < l.length := by omega
    have hn := ih (j + 1) (by omega)
    have hm := hw _ (getD_mem hj)
    refine Ev.step (fun k => by rw [spec_ListText.l0]) ?_
    rw [wadd1 (j := j) (by omega), rd_nat]
    refine ev_pos (by omega) (ev_pos (by omega) (Ev.bind (spec_FormatInt.ev _ hm.1 hm.2) (ev_pos (by simp; omega) ?_)))
    rw [List.take_succ_eq_append_getElem hj, List.map_append, List.map_cons, List.map_nil, ← getD_get hj] at hn
    exact hn
theorem spec_ListText.ev (l : List Int) (hl : l.length ≤ 1048576) (hw : ∀ x ∈ l, -9223372036854775808 ≤ x ∧ x ≤ 9223372036854775807) : Ev (fun k => spec_ListText.f k l) (listB l) := by
  unfold spec_ListText.f listB
  by_cases e : l = []
  · rw [if_pos e]
    exact ev_pos (by rw [e]; rfl) (Ev.now _)
  · rw [if_neg e]
    refine ev_neg (by have := List.length_pos_iff.2 e; omega) ?_
    exact spec_ListText.l0_ev l hl hw l.length 0 (by omega)

/-! laws_toIntS -/
theorem laws_toIntS.l0_ev (xs : List Int) (hx : xs.length ≤ 1048576) : ∀ (d j : Nat) (acc : List Int), j + d = xs.length → acc.length = xs.length → acc.take j = xs.take j → Ev (fun k => laws_toIntS.l0 k xs acc (j : Int)) xs := by
  intro d
  induction d with
  | zero =>
    intro j acc h1 h2 h3
    have e : acc = xs := by rw [← List.take_of_length_le (l := acc) (i := j) (by omega), h3, List.take_of_length_le (by omega)]
    subst e
    refine Ev.step (fun k => by rw [laws_toIntS.l0]) ?_
    refine ev_neg (by omega) (Ev.now _)
  | succ d ih =>
    intro j acc h1 h2 h3
    refine Ev.step (fun k => by rw [laws_toIntS.l0]) ?_
    refine ev_pos (by omega) (ev_pos (by omega) (ev_pos (by omega) ?_))
    rw [wadd1 (by omega)]
    refine ih (j + 1) _ (by omega) (by simp; omega) ?_
    rw [Int.toNat_natCast, rd_nat]
    exact set_take acc xs j _ (by omega) (by omega) h3 (getD_get (by omega)).symm
theorem laws_toIntS.ev (xs : List Int) (hx : xs.length ≤ 1048576) : Ev (fun k => laws_toIntS.f k xs) xs := by
  unfold laws_toIntS.f
  refine ev_pos (by omega) (ev_pos (by omega) ?_)
  rw [Int.toNat_natCast]
  exact laws_toIntS.l0_ev xs hx xs.length 0 _ (by omega) (by simp) (by simp)

/-! impl_FormatInt -/
theorem impl_FormatInt.eq (x : Int) (h : -9223372036854775808 ≤ x) (h' : x ≤ 9223372036854775807) : impl_FormatInt.f x = some (itoaB x) := by
  unfold impl_FormatInt.f strconv_Itoa_45.f
  rw [if_pos ⟨h, h'⟩]
  rfl

/-! impl_Join -/
theorem impl_Join.eqB (l : List ByteArray) (b : ByteArray) (hl : l.length ≤ 1048576) (hb : b.size ≤ 1048576) (hs : Lib.lens (l.map (·.data.toList)) ≤ 1000000000) : impl_Join.f l b = some ⟨(Lib.join (l.map (·.data.toList)) b.data.toList).toArray⟩ := by
  have hk := joinK_length l b l.length
  unfold joinK at hk
  rw [List.take_length] at hk
  have hm : b.size * l.length ≤ 1048576 * 1048576 := Nat.mul_le_mul hb hl
  unfold impl_Join.f strings_Join.f
  rw [if_pos ⟨by omega, by omega⟩]
  rfl
theorem impl_Join.eq (l : List ByteArray) (b : ByteArray) (hl : l.length ≤ 1048576) (hb : b.size ≤ 1048576) (hs : Lib.lens (l.map (·.data.toList)) ≤ 1048576) : impl_Join.f l b = some ⟨(Lib.join (l.map (·.data.toList)) b.data.toList).toArray⟩ := impl_Join.eqB l b hl hb (by omega)

/-! impl_ListText -/
theorem impl_ListText.l0_ev (l : List Int) (hl : l.length ≤ 1048576) (hw : ∀ x ∈ l, -9223372036854775808 ≤ x ∧ x ≤ 9223372036854775807) : ∀ (d j : Nat), j + d = l.length → Ev (fun k => impl_ListText.l0 k ((l.take j).map itoaB) l (l.length : Int) (j : Int)) ⟨(Lib.join ((l.map itoaB).map (·.data.toList)) [44]).toArray⟩ := by
  intro d
  induction d with
  | zero =>
    intro j h1
    obtain rfl : j = l.length := by omega
    refine Ev.step (fun k => by rw [impl_ListText.l0]) ?_
    refine ev_neg (by omega) ?_
    rw [List.take_length]
    have hz := lens_texts l hw
    rw [impl_Join.eqB (l.map itoaB) ⟨#[44]⟩ (by simpa using hl) (by decide) (by omega)]
    simp only [Option.bind_some]
    exact Ev.now _
  | succ d ih =>
    intro j h1
    have hj : j < l.length := by omega
    have hn := ih (j + 1) (by omega)
    have hm := hw _ (getD_mem hj)
    refine Ev.step (fun k => by rw [impl_ListText.l0]) ?_
    rw [wadd1 (j := j) (by omega), rd_nat, impl_FormatInt.eq _ hm.1 hm.2]
    simp only [Option.bind_some]
    refine ev_pos (by omega) (ev_pos (by omega) (ev_pos (by omega) (ev_pos (by simp; omega) ?_)))
    rw [List.take_succ_eq_append_getElem hj, List.map_append, List.map_cons, List.map_nil, ← getD_get hj] at hn
    exact hn
theorem impl_ListText.ev (l : List Int) (hl : l.length ≤ 1048576) (hw : ∀ x ∈ l, -9223372036854775808 ≤ x ∧ x ≤ 9223372036854775807) : Ev (fun k => impl_ListText.f k l) (listB l) := by
  unfold impl_ListText.f listB
  by_cases e : l = []
  · rw [if_pos e]
    exact ev_pos (by rw [e]; rfl) (Ev.now _)
  · rw [if_neg e]
    refine ev_neg (by have := List.length_pos_iff.2 e; omega) ?_
    exact impl_ListText.l0_ev l hl hw l.length 0 (by omega)

/-! laws_eqIntS -/
theorem laws_eqIntS.l0_ev (x y : List Int) (hl : x.length = y.length) (hx : x.length < 4611686018427387904) : ∀ (d j : Nat), j + d = x.length → Ev (fun k => laws_eqIntS.l0 k x y (j : Int)) (B (x.drop j = y.drop j)) := by
  intro d
  induction d with
  | zero =>
    intro j h1
    refine Ev.step (fun k => by rw [laws_eqIntS.l0]) ?_
    rw [B_true (by rw [List.drop_of_length_le (by omega), List.drop_of_length_le (by omega)])]
    exact ev_neg (by omega) (Ev.now _)
  | succ d ih =>
    intro j h1
    have hj : j < x.length := by omega
    have hj' : j < y.length := by omega
    refine Ev.step (fun k => by rw [laws_eqIntS.l0]) ?_
    refine ev_pos (by omega) (ev_pos (by omega) (ev_pos (by omega) ?_))
    rw [wadd1 (by omega), rd_nat, rd_nat, getD_get hj, getD_get hj', List.drop_eq_getElem_cons hj, List.drop_eq_getElem_cons hj']
    by_cases e : x[j] = y[j]
    · refine ev_pos e ?_
      have := ih (j + 1) (by omega)
      rw [B_congr (q := x.drop (j + 1) = y.drop (j + 1)) (by simp only [e, List.cons.injEq, true_and])]
      exact this
    · refine ev_neg e ?_
      rw [B_false (fun h => e (List.cons.inj h).1)]
      exact Ev.now _
theorem laws_eqIntS.ev (x y : List Int) (hx : x.length < 4611686018427387904) : Ev (fun k => laws_eqIntS.f k x y) (B (x = y)) := by
  unfold laws_eqIntS.f
  by_cases e : x.length = y.length
  · refine ev_pos (by omega) ?_
    exact laws_eqIntS.l0_ev x y e hx x.length 0 (by omega)
  · refine ev_neg (by omega) ?_
    rw [B_false (fun h => e (by rw [h]))]
    exact Ev.now _

end Go.Proofs.YtplmcifjgmcmhaaDoor.PFnExactListText
namespace Go.Proofs.YtplmcifjgmcmhaaDoor.Pure
open Go.RowKit Go.Proofs.YtplmcifjgmcmhaaDoorW.PrintWords Go.Proofs.YtplmcifjgmcmhaaDoorW.PrintLast Go.Proofs.YtplmcifjgmcmhaaDoorW.PrintMore Go.Proofs.YtplmcifjgmcmhaaDoorM
set_option linter.unusedVariables false
set_option linter.unusedSimpArgs false
open Go.Proofs.YtplmcifjgmcmhaaDoor.PFnExactListText
theorem FnExactListText : laws_FnExactListText.Pure := by
  intro l0 hl h8 hw
  refine Ev.rounds ?_
  unfold laws_FnExactListText.f
  by_cases h : (l0.length : Int) > 1048576
  · exact ev_pos h (Ev.now _)
  · refine ev_neg h ?_
    have hx : l0.length ≤ 1048576 := by omega
    have hr : ∀ x ∈ l0, -9223372036854775808 ≤ x ∧ x ≤ 9223372036854775807 := fun x hx => wf64 (hw x hx)
    refine Ev.bind (laws_toIntS.ev l0 hx) (Ev.bind (spec_ListText.ev l0 hx hr) (Ev.bind (laws_toIntS.ev l0 hx) (Ev.bind (impl_ListText.ev l0 hx hr) ?_)))
    refine ev_pos (by trivial) (Ev.bind (laws_toIntS.ev l0 hx) (Ev.bind (laws_eqIntS.ev l0 l0 (by omega)) ?_))
    rw [B_true rfl]
    exact ev_pos rfl (Ev.now _)

end Go.Proofs.YtplmcifjgmcmhaaDoor.Pure
