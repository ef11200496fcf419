/- The program's SplitByte answers what the reference's answers, for every string and byte (strings of more than 1048576 bytes are let pass by the law itself). No further condition. -/
import Derived.Test.YtdccejocahnjfaaPFnExactSplitBytex1
import Derived.Test.YtdccejocahnjfaaPFnExactSplitBytex2
import Derived.Test.YtdccejocahnjfaaM0
import Derived.Test.YtdccejocahnjfaaMS
namespace Go.Proofs.Ytdccejocahnjfaa.PFnExactSplitByte
open Go.RowKit Go.Proofs.YtdccejocahnjfaaW.PrintWords Go.Proofs.YtdccejocahnjfaaW.PrintLast Go.Proofs.YtdccejocahnjfaaW.PrintMore Go.Proofs.YtdccejocahnjfaaM
set_option linter.unusedVariables false
set_option linter.unusedSimpArgs false
/-! spec_SplitByte -/
theorem spec_SplitByte.l0_ev (s : ByteArray) (b : Int) (hs : s.size < 1000000000000) : ∀ (d : Nat) (out : List ByteArray) (fr i : Nat), i + d = s.size → fr ≤ i → out.length ≤ i → Ev (fun k => spec_SplitByte.l0 k s b out (fr : Int) (i : Int)) (splitFrom s b d out fr i) := by
  intro d
  induction d with
  | zero =>
    intro out fr i h1 h2 h3
    refine Ev.step (fun k => by rw [spec_SplitByte.l0]) ?_
    refine ev_pos (by omega) (ev_pos (by omega) (ev_pos (by omega) (ev_pos (by omega) (ev_pos (by omega) ?_))))
    rw [wadd1 (by omega)]
    refine Ev.step (fun k => by rw [spec_SplitByte.l0]) ?_
    rw [splitFrom, Int.toNat_natCast, Int.toNat_natCast, show i = s.size by omega]
    exact ev_neg (by omega) (Ev.now _)
  | succ d ih =>
    intro out fr i h1 h2 h3
    refine Ev.step (fun k => by rw [spec_SplitByte.l0]) ?_
    refine ev_pos (by omega) (ev_neg (by omega) (ev_pos (by omega) (ev_pos (by omega) ?_)))
    rw [wadd1 (by omega), splitFrom, Int.toNat_natCast, Int.toNat_natCast]
    by_cases e : bt s (i : Int) = b
    · rw [if_pos e]
      exact ev_pos e (ev_pos (by omega) (ev_pos (by omega) (ev_pos (by omega) (ih _ _ _ (by omega) (by omega) (by simp; omega)))))
    · rw [if_neg e]
      exact ev_neg e (ih _ _ _ (by omega) (by omega) (by omega))
theorem spec_SplitByte.ev (s : ByteArray) (b : Int) (hs : s.size < 1000000000000) : Ev (fun k => spec_SplitByte.f k s b) (splitV s b) := by
  unfold spec_SplitByte.f splitV
  exact spec_SplitByte.l0_ev s b hs s.size [] 0 0 (by omega) (by omega) (by simp)

/-! impl_SplitByte -/
theorem impl_SplitByte.l0_ev (s : ByteArray) (b : Int) (hs : s.size < 1000000000000) : ∀ (d : Nat) (out : List ByteArray) (fr i : Nat), i + d = s.size → fr ≤ i → out.length ≤ i → Ev (fun k => impl_SplitByte.l0 k s b out (fr : Int) (i : Int)) (splitFrom s b d out fr i) := by
  intro d
  induction d with
  | zero =>
    intro out fr i h1 h2 h3
    refine Ev.step (fun k => by rw [impl_SplitByte.l0]) ?_
    rw [splitFrom, Int.toNat_natCast]
    exact ev_neg (by omega) (ev_pos (by omega) (ev_pos (by omega) (ev_pos (by omega) (Ev.now _))))
  | succ d ih =>
    intro out fr i h1 h2 h3
    refine Ev.step (fun k => by rw [impl_SplitByte.l0]) ?_
    refine ev_pos (by omega) (ev_pos (by omega) ?_)
    rw [wadd1 (by omega), splitFrom, Int.toNat_natCast, Int.toNat_natCast]
    by_cases e : bt s (i : Int) = b
    · rw [if_pos e]
      exact ev_pos e (ev_pos (by omega) (ev_pos (by omega) (ev_pos (by omega) (ev_pos (by omega) (ih _ _ _ (by omega) (by omega) (by simp; omega))))))
    · rw [if_neg e]
      exact ev_neg e (ih _ _ _ (by omega) (by omega) (by omega))
theorem impl_SplitByte.ev (s : ByteArray) (b : Int) (hs : s.size < 1000000000000) : Ev (fun k => impl_SplitByte.f k s b) (splitV s b) := by
  unfold impl_SplitByte.f splitV
  exact impl_SplitByte.l0_ev s b hs s.size [] 0 0 (by omega) (by omega) (by simp)

/-! laws_eqStringS -/
theorem laws_eqStringS.l0_ev (x : List ByteArray) (hx : x.length < 4611686018427387904) : ∀ (d j : Nat), j + d = x.length → Ev (fun k => laws_eqStringS.l0 k x x (j : Int)) true := by
  intro d
  induction d with
  | zero =>
    intro j h1
    refine Ev.step (fun k => by rw [laws_eqStringS.l0]) ?_
    exact ev_neg (by omega) (Ev.now _)
  | succ d ih =>
    intro j h1
    refine Ev.step (fun k => by rw [laws_eqStringS.l0]) ?_
    rw [wadd1 (by omega)]
    exact ev_pos (by omega) (ev_pos (by omega) (ev_pos (by omega) (ev_pos rfl (ih (j + 1) (by omega)))))
theorem laws_eqStringS.self (x : List ByteArray) (hx : x.length < 4611686018427387904) : Ev (fun k => laws_eqStringS.f k x x) true := by
  unfold laws_eqStringS.f
  exact ev_pos rfl (laws_eqStringS.l0_ev x hx x.length 0 (by omega))

/-! laws_markText -/
theorem laws_markText.l0_some : ∀ (d : Nat) (x : Int) (acc : ByteArray), x < 10 ^ d → acc.size + d ≤ 1000 → ∃ r, Ev (fun k => laws_markText.l0 k x acc) r := by
  intro d
  induction d with
  | zero =>
    intro x acc h1 h2
    refine ⟨(⟨#[109]⟩ : ByteArray) ++ acc, Ev.step (fun k => by rw [laws_markText.l0]) ?_⟩
    exact ev_neg (by simp at h1; omega) (ev_pos (by omega) (Ev.now _))
  | succ d ih =>
    intro x acc h1 h2
    by_cases h : x > 0
    · have e1 : wrap64 (Int.tdiv x 10) = x / 10 ∨ ¬ (x ≤ 4611686018427387904) := by
        by_cases hb : x ≤ 4611686018427387904
        · left; rw [Int.tdiv_eq_ediv_of_nonneg (by omega), w64 (by omega) (by omega)]
        · exact .inr hb
      have e2 : wrap64 (Int.tdiv x 10) < 10 ^ d := by
        rw [Int.pow_succ] at h1
        have e3 : x / 10 < 10 ^ d := by omega
        have e4 : 0 ≤ x / 10 := by omega
        rw [Int.tdiv_eq_ediv_of_nonneg (by omega)]
        unfold wrap64
        omega
      obtain ⟨r, hr⟩ := ih (wrap64 (Int.tdiv x 10)) (strOfNums [wrap64 (48 + Int.tmod x 10) % 256] ++ acc) e2 (by rw [ByteArray.size_append, strOfNums_size]; simp; omega)
      refine ⟨r, Ev.step (fun k => by rw [laws_markText.l0]) ?_⟩
      refine ev_pos h ?_
      simp only [Option.bind_some]
      refine ev_pos ?_ hr
      rw [strOfNums_size]; simp; omega
    · refine ⟨(⟨#[109]⟩ : ByteArray) ++ acc, Ev.step (fun k => by rw [laws_markText.l0]) ?_⟩
      exact ev_neg h (ev_pos (by omega) (Ev.now _))
theorem laws_markText.ex (x : Int) (h : x ≤ 9223372036854775807) : ∃ r, Ev (fun k => laws_markText.f k x) r := by
  unfold laws_markText.f
  by_cases hx : x ≤ 0
  · exact ⟨_, ev_pos hx (Ev.now _)⟩
  · obtain ⟨r, hr⟩ := laws_markText.l0_some 19 x ⟨#[]⟩ (by omega) (by simp [ByteArray.size])
    exact ⟨r, ev_neg hx hr⟩
noncomputable def mt (x : Int) : ByteArray := if h : x ≤ 9223372036854775807 then Classical.choose (laws_markText.ex x h) else ByteArray.empty
theorem laws_markText.ev (x : Int) (h : x ≤ 9223372036854775807) : Ev (fun k => laws_markText.f k x) (mt x) := by
  unfold mt
  rw [dif_pos h]
  exact Classical.choose_spec (laws_markText.ex x h)

/-! laws_markStringS -/
theorem laws_markStringS.l0_ev (m : Int) (hm : 0 ≤ m) (hm' : m ≤ 1000000000) : ∀ (d j : Nat) (x : List ByteArray), j + d = x.length → x.length < 1000000000000 → x.take j = marks mt j m → Ev (fun k => laws_markStringS.l0 k x (m + j) (j : Int)) (m + x.length, marks mt x.length m) := by
  intro d
  induction d with
  | zero =>
    intro j x h1 h2 h3
    refine Ev.step (fun k => by rw [laws_markStringS.l0]) ?_
    rw [List.take_of_length_le (by omega)] at h3
    have e : j = x.length := by omega
    subst e
    rw [← h3]
    exact ev_neg (by omega) (Ev.now _)
  | succ d ih =>
    intro j x h1 h2 h3
    refine Ev.step (fun k => by rw [laws_markStringS.l0]) ?_
    refine ev_pos (by omega) (Ev.bind (laws_markText.ev _ (by omega)) (ev_pos (by omega) ?_))
    have e : wrap64 (m + (j : Int) + 1) = m + ((j + 1 : Nat) : Int) := by rw [w64 (by omega) (by omega)]; omega
    rw [wadd1 (by omega), e, Int.toNat_natCast]
    have := ih (j + 1) (x.set j (mt (m + j))) (by simp; omega) (by simp; omega) ?_
    · simpa using this
    · have hg : marks mt (j + 1) m = marks mt j m ++ [mt (m + j)] := by
        apply List.ext_getElem?
        intro i
        by_cases hi : i < j + 1
        · have a := marks_get mt (j + 1) m i hi
          rw [List.getD_eq_getElem?_getD] at a
          rw [List.getElem?_eq_getElem (by rw [marks_length]; exact hi)] at a ⊢
          simp at a
          rw [a]
          by_cases e : i < j
          · have b := marks_get mt j m i e
            rw [List.getD_eq_getElem?_getD, List.getElem?_eq_getElem (by rw [marks_length]; exact e)] at b
            simp at b
            rw [List.getElem?_append_left (by rw [marks_length]; exact e), List.getElem?_eq_getElem (by rw [marks_length]; exact e), b]
          · have : i = j := by omega
            subst this
            rw [List.getElem?_append_right (by rw [marks_length]; omega), marks_length]; simp
        · rw [List.getElem?_eq_none (by rw [marks_length]; omega), List.getElem?_eq_none (by simp [marks_length]; omega)]
      rw [hg, ← h3, List.take_succ_eq_append_getElem (by simp; omega), List.take_set_of_le (by omega)]
      simp
theorem laws_markStringS.ev (x : List ByteArray) (hx : x.length < 1000000000000) (m : Int) (hm : 0 ≤ m) (hm' : m ≤ 1000000000) : Ev (fun k => laws_markStringS.f k x m) (m + x.length, marks mt x.length m) := by
  unfold laws_markStringS.f
  have := laws_markStringS.l0_ev m hm hm' x.length 0 x (by omega) hx (by simp [marks])
  simpa using this

/-! laws_heldStringS -/
theorem laws_heldStringS.l0_ev (m : Int) (hm : 0 ≤ m) (hm' : m ≤ 1000000000) (n : Nat) (hn : n < 1000000000000) : ∀ (d j : Nat), j + d = n → Ev (fun k => laws_heldStringS.l0 k (marks mt n m) (m + j) (j : Int)) (m + n) := by
  intro d
  induction d with
  | zero =>
    intro j h1
    refine Ev.step (fun k => by rw [laws_heldStringS.l0]) ?_
    have e : j = n := by omega
    subst e
    exact ev_neg (by rw [marks_length]; omega) (Ev.now _)
  | succ d ih =>
    intro j h1
    refine Ev.step (fun k => by rw [laws_heldStringS.l0]) ?_
    refine ev_pos (by rw [marks_length]; omega) (ev_pos (by omega) (Ev.bind (laws_markText.ev _ (by omega)) ?_))
    have e : wrap64 (m + (j : Int) + 1) = m + ((j + 1 : Nat) : Int) := by rw [w64 (by omega) (by omega)]; omega
    rw [wadd1 (by omega), e, rdOf_nat, marks_get mt n m j (by omega)]
    exact ev_pos rfl (ih (j + 1) (by omega))
theorem laws_heldStringS.ev (n : Nat) (hn : n < 1000000000000) (m : Int) (hm : 0 ≤ m) (hm' : m ≤ 1000000000) : Ev (fun k => laws_heldStringS.f k (marks mt n m) m) (m + n) := by
  unfold laws_heldStringS.f
  have := laws_heldStringS.l0_ev m hm hm' n hn n 0 (by omega)
  simpa using this

end Go.Proofs.Ytdccejocahnjfaa.PFnExactSplitByte
namespace Go.Proofs.Ytdccejocahnjfaa.Pure
open Go.RowKit Go.Proofs.YtdccejocahnjfaaW.PrintWords Go.Proofs.YtdccejocahnjfaaW.PrintLast Go.Proofs.YtdccejocahnjfaaW.PrintMore Go.Proofs.YtdccejocahnjfaaM
set_option linter.unusedVariables false
set_option linter.unusedSimpArgs false
open Go.Proofs.Ytdccejocahnjfaa.PFnExactSplitByte
theorem FnExactSplitByte : laws_FnExactSplitByte.Pure := by
  intro a0 a1 h0 h1
  refine Ev.rounds ?_
  unfold laws_FnExactSplitByte.f
  by_cases h : (a0.size : Int) > 1048576
  · exact ev_pos h (Ev.now _)
  · refine ev_neg h ?_
    have hl := splitV_length a0 a1
    refine Ev.bind (spec_SplitByte.ev a0 a1 (by omega)) ?_
    refine Ev.bind (impl_SplitByte.ev a0 a1 (by omega)) ?_
    refine Ev.bind (laws_eqStringS.self _ (by omega)) ?_
    refine ev_pos rfl ?_
    refine Ev.bind (laws_markStringS.ev _ (by omega) 1 (by omega) (by omega)) ?_
    refine Ev.bind (laws_heldStringS.ev _ (by omega) 1 (by omega) (by omega)) ?_
    refine ev_neg (by omega) (ev_pos rfl ?_)
    refine Ev.bind (impl_SplitByte.ev a0 a1 (by omega)) ?_
    refine Ev.bind (laws_eqStringS.self _ (by omega)) ?_
    refine ev_pos rfl ?_
    refine Ev.bind (laws_heldStringS.ev _ (by omega) 1 (by omega) (by omega)) ?_
    exact ev_neg (by omega) (ev_pos rfl (Ev.now _))

end Go.Proofs.Ytdccejocahnjfaa.Pure
