/- The program's Join answers what the reference's answers, for every list of strings and every separator (lists and strings of more than 1048576 elements and bytes are let pass by the law itself). No further condition. -/
import Derived.Test.YtbagfnppeidonaaPFnExactJoinx1
import Derived.Test.YtbagfnppeidonaaM0
import Derived.Test.YtbagfnppeidonaaMJ
namespace Go.Proofs.Ytbagfnppeidonaa.PFnExactJoin
open Go.RowKit Go.Proofs.YtbagfnppeidonaaW.PrintWords Go.Proofs.YtbagfnppeidonaaW.PrintLast Go.Proofs.YtbagfnppeidonaaW.PrintMore Go.Proofs.YtbagfnppeidonaaM
set_option linter.unusedVariables false
set_option linter.unusedSimpArgs false
/-! laws_szStringS -/
theorem laws_szStringS.l0_ev (l : List ByteArray) (hl : l.length ≤ 1048576) (hs : ∀ s ∈ l, s.size ≤ 9223372036854775807) : ∀ (d j : Nat) (left : Int), j + d = l.length → 0 ≤ left → left ≤ 1048576 → ∃ r, Ev (fun k => laws_szStringS.l0 k l left (j : Int)) r ∧ (r < 0 ∨ (0 ≤ r ∧ (Lib.lens ((l.drop j).map (·.data.toList)) : Int) ≤ left)) := by
  intro d
  induction d with
  | zero =>
    intro j left h1 h2 h3
    refine ⟨left, Ev.step (fun k => by rw [laws_szStringS.l0]) ?_, .inr ⟨h2, ?_⟩⟩
    · exact ev_neg (by omega) (Ev.now _)
    · rw [List.drop_eq_nil_of_le (by omega)]
      simp [Lib.lens]
      exact h2
  | succ d ih =>
    intro j left h1 h2 h3
    have hj : j < l.length := by omega
    have e0 : l.getD j ByteArray.empty = l[j] := by simp [List.getD_eq_getElem?_getD, hj]
    have hsz := hs _ (List.getElem_mem hj)
    have ew : wrap64 (left - ((l[j]).size : Int)) = left - ((l[j]).size : Int) := w64 (by omega) (by omega)
    by_cases c : left - ((l[j]).size : Int) < 0
    · refine ⟨-1, Ev.step (fun k => by rw [laws_szStringS.l0]) ?_, .inl (by omega)⟩
      rw [rdOf_nat, e0, ew]
      exact ev_pos (by omega) (ev_pos (by omega) (ev_pos c (Ev.now _)))
    · obtain ⟨r, hr, hp⟩ := ih (j + 1) (left - ((l[j]).size : Int)) (by omega) (by omega) (by omega)
      refine ⟨r, Ev.step (fun k => by rw [laws_szStringS.l0]) ?_, ?_⟩
      · rw [rdOf_nat, e0, ew, wadd1 (j := j) (by omega)]
        exact ev_pos (by omega) (ev_pos (by omega) (ev_neg c hr))
      · rcases hp with hp | ⟨hp1, hp2⟩
        · exact .inl hp
        · refine .inr ⟨hp1, ?_⟩
          rw [List.drop_eq_getElem_cons hj]
          have e1 : (l[j]).data.toList.length = (l[j]).size := data_length _
          simp only [Lib.lens, List.map_cons, List.sum_cons] at hp2 ⊢
          rw [e1]
          omega
theorem laws_szStringS.ev (l : List ByteArray) (hl : l.length ≤ maxLen) (hs : ∀ s ∈ l, s.size ≤ 9223372036854775807) : ∃ r, Ev (fun k => laws_szStringS.f k l 1048576) r ∧ (r < 0 ∨ (0 ≤ r ∧ l.length ≤ 1048576 ∧ Lib.lens (l.map (·.data.toList)) ≤ 1048576)) := by
  unfold maxLen at hl
  have ew : wrap64 (1048576 - (l.length : Int)) = 1048576 - (l.length : Int) := w64 (by omega) (by omega)
  unfold laws_szStringS.f
  rw [ew]
  by_cases c : 1048576 - (l.length : Int) < 0
  · exact ⟨-1, ev_pos c (Ev.now _), .inl (by omega)⟩
  · obtain ⟨r, hr, hp⟩ := laws_szStringS.l0_ev l (by omega) hs l.length 0 (1048576 - (l.length : Int)) (by omega) (by omega) (by omega)
    rw [List.drop_zero] at hp
    refine ⟨r, ev_neg c hr, ?_⟩
    rcases hp with hp | ⟨hp1, hp2⟩
    · exact .inl hp
    · exact .inr ⟨hp1, by omega, by omega⟩

/-! spec_Join -/
theorem spec_Join.l0_ev (l : List ByteArray) (b : ByteArray) (hl : l.length ≤ 1048576) (hb : b.size ≤ 1048576) (hs : Lib.lens (l.map (·.data.toList)) ≤ 1048576) : ∀ (d j : Nat), j + d = l.length → Ev (fun k => spec_Join.l0 k l b (bnums (joinK l b j)) (j : Int)) ⟨(joinK l b l.length).toArray⟩ := by
  have hm : b.size * l.length ≤ 1048576 * 1048576 := Nat.mul_le_mul hb hl
  have sz : ∀ j (hj : j < l.length), (l[j]).size ≤ 1048576 := fun j hj => by
    have h1 := Lib.lens_take_succ (l.map (·.data.toList)) j (l[j]).data.toList (by simp [hj])
    have h2 := Lib.lens_take_le (l.map (·.data.toList)) (j + 1)
    have h3 : (l[j]).data.toList.length = (l[j]).size := data_length _
    omega
  intro d
  induction d with
  | zero =>
    intro j h1
    obtain rfl : j = l.length := by omega
    refine Ev.step (fun k => by rw [spec_Join.l0]) ?_
    refine ev_neg (by omega) ?_
    rw [strOfNums_bnums]
    exact Ev.now _
  | succ d ih =>
    intro j h1
    have hj : j < l.length := by omega
    have hk := joinK_length l b j
    have hn := ih (j + 1) (by omega)
    have e0 : l.getD j ByteArray.empty = l[j] := by simp [List.getD_eq_getElem?_getD, hj]
    have hx := sz j hj
    have hnl := bnums_length (joinK l b j)
    have hbl := bytesOf_length b
    refine Ev.step (fun k => by rw [spec_Join.l0]) ?_
    rw [wadd1 (j := j) (by omega), rdOf_nat, e0]
    refine ev_pos (by omega) ?_
    by_cases c : j = 0
    · subst c
      refine ev_neg (by omega) (ev_pos (by omega) (ev_pos (by omega) ?_))
      rw [joinK_zero, bnums_bytes]
      rw [joinK_one b hj] at hn
      exact hn
    · refine ev_pos (by omega) (ev_pos (by omega) ?_)
      simp only [Option.bind_some]
      refine ev_pos (by omega) (ev_pos (by rw [List.length_append]; omega) ?_)
      rw [joinK_succ b (by omega) hj, bnums_append, bnums_append] at hn
      rw [bnums_bytes, bnums_bytes]
      exact hn
theorem spec_Join.ev (l : List ByteArray) (b : ByteArray) (hl : l.length ≤ 1048576) (hb : b.size ≤ 1048576) (hs : Lib.lens (l.map (·.data.toList)) ≤ 1048576) : Ev (fun k => spec_Join.f k l b) ⟨(Lib.join (l.map (·.data.toList)) b.data.toList).toArray⟩ := by
  have := spec_Join.l0_ev l b hl hb hs l.length 0 (by omega)
  unfold joinK at this
  rw [List.take_length] at this
  unfold spec_Join.f
  exact this

/-! laws_toStringS -/
theorem laws_toStringS.l0_ev (xs : List ByteArray) (hx : xs.length ≤ 1048576) : ∀ (d j : Nat) (acc : List ByteArray), j + d = xs.length → acc.length = xs.length → acc.take j = xs.take j → Ev (fun k => laws_toStringS.l0 k xs acc (j : Int)) xs := by
  intro d
  induction d with
  | zero =>
    intro j acc h1 h2 h3
    have e : acc = xs := by rw [← List.take_of_length_le (l := acc) (i := j) (by omega), h3, List.take_of_length_le (by omega)]
    subst e
    refine Ev.step (fun k => by rw [laws_toStringS.l0]) ?_
    refine ev_neg (by omega) (Ev.now _)
  | succ d ih =>
    intro j acc h1 h2 h3
    have hj : j < xs.length := by omega
    refine Ev.step (fun k => by rw [laws_toStringS.l0]) ?_
    refine ev_pos (by omega) (ev_pos (by omega) (ev_pos (by omega) ?_))
    rw [wadd1 (by omega)]
    refine ih (j + 1) _ (by omega) (by simp; omega) ?_
    rw [Int.toNat_natCast, rdOf_nat]
    exact set_take acc xs j _ (by omega) (by omega) h3 (by simp [List.getD_eq_getElem?_getD, hj])
theorem laws_toStringS.ev (xs : List ByteArray) (hx : xs.length ≤ 1048576) : Ev (fun k => laws_toStringS.f k xs) xs := by
  unfold laws_toStringS.f
  refine ev_pos (by omega) (ev_pos (by omega) ?_)
  rw [Int.toNat_natCast]
  exact laws_toStringS.l0_ev xs hx xs.length 0 _ (by omega) (by simp) (by simp)

/-! impl_Join -/
theorem impl_Join.eq (l : List ByteArray) (b : ByteArray) (hl : l.length ≤ 1048576) (hb : b.size ≤ 1048576) (hs : Lib.lens (l.map (·.data.toList)) ≤ 1048576) : impl_Join.f l b = some ⟨(Lib.join (l.map (·.data.toList)) b.data.toList).toArray⟩ := by
  have hk := joinK_length l b l.length
  unfold joinK at hk
  rw [List.take_length] at hk
  have hm : b.size * l.length ≤ 1048576 * 1048576 := Nat.mul_le_mul hb hl
  unfold impl_Join.f strings_Join.f
  rw [if_pos ⟨by omega, by omega⟩]
  rfl

/-! laws_eqStringS -/
theorem laws_eqStringS.l0_ev (x : List ByteArray) (hx : x.length < 4611686018427387904) : ∀ (d j : Nat), j + d = x.length → Ev (fun k => laws_eqStringS.l0 k x x (j : Int)) true := by
  intro d
  induction d with
  | zero =>
    intro j h1
    refine Ev.step (fun k => by rw [laws_eqStringS.l0]) ?_
    exact ev_neg (by omega) (Ev.now _)
  | succ d ih =>
    intro j h1
    refine Ev.step (fun k => by rw [laws_eqStringS.l0]) ?_
    rw [wadd1 (by omega)]
    exact ev_pos (by omega) (ev_pos (by omega) (ev_pos (by omega) (ev_pos rfl (ih (j + 1) (by omega)))))
theorem laws_eqStringS.self (x : List ByteArray) (hx : x.length < 4611686018427387904) : Ev (fun k => laws_eqStringS.f k x x) true := by
  unfold laws_eqStringS.f
  exact ev_pos rfl (laws_eqStringS.l0_ev x hx x.length 0 (by omega))

end Go.Proofs.Ytbagfnppeidonaa.PFnExactJoin
namespace Go.Proofs.Ytbagfnppeidonaa.Pure
open Go.RowKit Go.Proofs.YtbagfnppeidonaaW.PrintWords Go.Proofs.YtbagfnppeidonaaW.PrintLast Go.Proofs.YtbagfnppeidonaaW.PrintMore Go.Proofs.YtbagfnppeidonaaM
set_option linter.unusedVariables false
set_option linter.unusedSimpArgs false
open Go.Proofs.Ytbagfnppeidonaa.PFnExactJoin
def JoinPure : Prop := ∀ (l0 : List ByteArray) (a1 : ByteArray), l0.length ≤ maxLen → (∀ s ∈ l0, s.size ≤ 9223372036854775807) → a1.size ≤ 140737488351232 → ∃ k, laws_FnExactJoin.f k l0 a1 = some true
theorem FnExactJoin : JoinPure := by
  intro l0 a1 hl hs hb
  refine Ev.rounds ?_
  unfold laws_FnExactJoin.f
  by_cases h : (a1.size : Int) > 1048576
  · exact ev_pos h (Ev.now _)
  · refine ev_neg h ?_
    obtain ⟨r, hr, hp⟩ := laws_szStringS.ev l0 hl hs
    refine Ev.bind hr ?_
    rcases hp with hp | ⟨hp1, hx, hz⟩
    · exact ev_pos hp (Ev.now _)
    · refine ev_neg (by omega) (Ev.bind (laws_toStringS.ev l0 hx) (Ev.bind (spec_Join.ev l0 a1 hx (by omega) hz) (Ev.bind (laws_toStringS.ev l0 hx) ?_)))
      rw [impl_Join.eq l0 a1 hx (by omega) hz]
      simp only [Option.bind_some]
      refine ev_pos (by trivial) (Ev.bind (laws_toStringS.ev l0 hx) (Ev.bind (laws_eqStringS.self l0 (by omega)) ?_))
      exact ev_pos rfl (Ev.now _)

end Go.Proofs.Ytbagfnppeidonaa.Pure
