/- For every row of bytes (of more than 1048576 bytes the law itself says nothing): joining the parts of the drawn string at the drawn separator restores it, the reference's split has as many parts, and no part contains the separator. No further condition. -/
import Derived.Test.YtbagfnppeidonaaPFnSplitx1
import Derived.Test.YtbagfnppeidonaaPFnSplitx2
import Derived.Test.YtbagfnppeidonaaM0
import Derived.Test.YtbagfnppeidonaaMJ
import Derived.Test.YtbagfnppeidonaaM1
import Derived.Test.YtbagfnppeidonaaM2
import Derived.Test.YtbagfnppeidonaaM3
import Derived.Test.YtbagfnppeidonaaM4
import Derived.Test.YtbagfnppeidonaaM5
import Derived.Test.YtbagfnppeidonaaM6
import Derived.Test.YtbagfnppeidonaaM7
import Derived.Test.YtbagfnppeidonaaM8
import Derived.Test.YtbagfnppeidonaaMD
import Derived.Test.YtbagfnppeidonaaMS
namespace Go.Proofs.Ytbagfnppeidonaa.PFnSplit
open Go.RowKit Go.Proofs.YtbagfnppeidonaaW.PrintWords Go.Proofs.YtbagfnppeidonaaW.PrintLast Go.Proofs.YtbagfnppeidonaaW.PrintMore Go.Proofs.YtbagfnppeidonaaM
set_option linter.unusedVariables false
set_option linter.unusedSimpArgs false
/-! impl_Join -/
theorem impl_Join.eq (l : List ByteArray) (b : ByteArray) (hl : l.length ≤ 1048576) (hb : b.size ≤ 1048576) (hs : Lib.lens (l.map (·.data.toList)) ≤ 1048576) : impl_Join.f l b = some ⟨(Lib.join (l.map (·.data.toList)) b.data.toList).toArray⟩ := by
  have hk := joinK_length l b l.length
  unfold joinK at hk
  rw [List.take_length] at hk
  have hm : b.size * l.length ≤ 1048576 * 1048576 := Nat.mul_le_mul hb hl
  unfold impl_Join.f strings_Join.f
  rw [if_pos ⟨by omega, by omega⟩]
  rfl

/-! laws_big -/
theorem laws_big.eq (l : List Int) : laws_big.f l = some (decide ((l.length : Int) > 1048576)) := rfl

/-! spec_l1New -/
theorem spec_l1New.l0_ev (l : List Int) (hl : l.length < 4611686018427387904) : ∀ (d j : Nat) (h : Int), j + d = l.length → ∃ h', Ev (fun k => spec_l1New.l0 k l h (j : Int)) (l, 0, h') := by
  intro d
  induction d with
  | zero =>
    intro j h g1
    refine ⟨h, Ev.step (fun k => by rw [spec_l1New.l0]) ?_⟩
    exact ev_neg (by omega) (Ev.now _)
  | succ d ih =>
    intro j h g1
    by_cases c : (j : Int) < 4000
    · obtain ⟨h', hh⟩ := ih (j + 1) (Go.bits .and .i64 (wrap64 ((wrap64 ((wrap64 (h * 131)) + (wrap64 (rd l (j : Int))))) + 7)) 1073741823) (by omega)
      refine ⟨h', Ev.step (fun k => by rw [spec_l1New.l0]) ?_⟩
      rw [wadd1 (j := j) (by omega)]
      exact ev_pos (by omega) (ev_pos c (ev_pos (by omega) hh))
    · refine ⟨h, Ev.step (fun k => by rw [spec_l1New.l0]) ?_⟩
      exact ev_pos (by omega) (ev_neg c (Ev.now _))
theorem spec_l1New.ev (l : List Int) (hl : l.length < 4611686018427387904) : ∃ h, Ev (fun k => spec_l1New.f k l) (l, 0, h) := by
  unfold spec_l1New.f
  exact spec_l1New.l0_ev l hl l.length 0 _ (by omega)

/-! spec_l1Byte -/
theorem spec_l1Byte.eq (s : List Int) (hs : s.length < 4611686018427387904) (i : Int) (hi : 0 ≤ i) (h : Int) : ∃ x i' h', spec_l1Byte.f s i h = some (x, i', h') ∧ (0 ≤ x ∧ x ≤ 255) ∧ 0 ≤ i' := by
  unfold spec_l1Byte.f
  by_cases c : i < (s.length : Int)
  · rw [if_pos c, if_pos hi]
    have e : wrap64 (i + 1) = i + 1 := w64 (by omega) (by omega)
    exact ⟨_, _, _, rfl, and255 _, by rw [e]; omega⟩
  · rw [if_neg c]
    exact ⟨_, _, _, rfl, and255 _, hi⟩

/-! spec_l1Below -/
theorem tmod_range {x n : Int} (hx : 0 ≤ x) (hn : 1 ≤ n) : 0 ≤ Int.tmod x n ∧ Int.tmod x n < n := by
  rw [Int.tmod_eq_emod_of_nonneg hx]
  exact ⟨Int.emod_nonneg _ (by omega), Int.emod_lt_of_pos _ (by omega)⟩
theorem spec_l1Below.eq (s : List Int) (hs : s.length < 4611686018427387904) (i : Int) (hi : 0 ≤ i) (h n : Int) (hn : 1 ≤ n) : ∃ x i' h', spec_l1Below.f s i h n = some (x, i', h') ∧ (0 ≤ x ∧ x < n) ∧ 0 ≤ i' := by
  unfold spec_l1Below.f
  rw [if_neg (by omega)]
  obtain ⟨x, i1, h1, e1, hx, hi1⟩ := spec_l1Byte.eq s hs i hi h
  by_cases c : n ≤ 256
  · rw [if_pos c, e1]
    simp only [Option.bind_some]
    rw [if_neg (by omega)]
    exact ⟨_, _, _, rfl, tmod_range hx.1 hn, hi1⟩
  · rw [if_neg c, e1]
    simp only [Option.bind_some]
    obtain ⟨y, i2, h2, e2, hy, hi2⟩ := spec_l1Byte.eq s hs i1 hi1 h1
    rw [e2]
    simp only [Option.bind_some]
    obtain ⟨z, i3, h3, e3, hz, hi3⟩ := spec_l1Byte.eq s hs i2 hi2 h2
    rw [e3]
    simp only [Option.bind_some]
    obtain ⟨v, i4, h4, e4, hv, hi4⟩ := spec_l1Byte.eq s hs i3 hi3 h3
    rw [e4]
    simp only [Option.bind_some]
    rw [if_neg (by omega)]
    have a1 : wrap64 (x * 16777216) = x * 16777216 := w64 (by omega) (by omega)
    have a2 : wrap64 (y * 65536) = y * 65536 := w64 (by omega) (by omega)
    have a3 : wrap64 (z * 256) = z * 256 := w64 (by omega) (by omega)
    rw [a1, a2, a3]
    have a4 : wrap64 (x * 16777216 + y * 65536) = x * 16777216 + y * 65536 := w64 (by omega) (by omega)
    rw [a4]
    have a5 : wrap64 (x * 16777216 + y * 65536 + z * 256) = x * 16777216 + y * 65536 + z * 256 := w64 (by omega) (by omega)
    rw [a5]
    have a6 : wrap64 (x * 16777216 + y * 65536 + z * 256 + v) = x * 16777216 + y * 65536 + z * 256 + v := w64 (by omega) (by omega)
    rw [a6]
    exact ⟨_, _, _, rfl, tmod_range (by omega) hn, hi4⟩

/-! spec_l1Pick -/
theorem spec_l1Pick.eq (s : List Int) (hs : s.length < 4611686018427387904) (i : Int) (hi : 0 ≤ i) (h : Int) (l : List ByteArray) (hl : 1 ≤ l.length) : ∃ x i' h', spec_l1Pick.f s i h l = some (x, i', h') ∧ x ∈ l ∧ 0 ≤ i' := by
  obtain ⟨x, i1, h1, e1, hx, hi1⟩ := spec_l1Below.eq s hs i hi h (l.length : Int) (by omega)
  unfold spec_l1Pick.f
  rw [e1]
  simp only [Option.bind_some]
  rw [if_pos hx.1, if_pos hx.2]
  refine ⟨_, _, _, rfl, ?_, hi1⟩
  obtain ⟨m, rfl⟩ : ∃ m : Nat, x = (m : Int) := ⟨x.toNat, by omega⟩
  rw [rdOf_nat]
  have hm : m < l.length := by omega
  simp [List.getD_eq_getElem?_getD, hm]

/-! spec_l1PickInt -/
theorem spec_l1PickInt.eq (s : List Int) (hs : s.length < 4611686018427387904) (i : Int) (hi : 0 ≤ i) (h : Int) (l : List Int) (hl : 1 ≤ l.length) : ∃ x i' h', spec_l1PickInt.f s i h l = some (x, i', h') ∧ x ∈ l ∧ 0 ≤ i' := by
  obtain ⟨x, i1, h1, e1, hx, hi1⟩ := spec_l1Below.eq s hs i hi h (l.length : Int) (by omega)
  unfold spec_l1PickInt.f
  rw [e1]
  simp only [Option.bind_some]
  rw [if_pos hx.1, if_pos hx.2]
  refine ⟨_, _, _, rfl, ?_, hi1⟩
  obtain ⟨m, rfl⟩ : ∃ m : Nat, x = (m : Int) := ⟨x.toNat, by omega⟩
  rw [rd_nat]
  exact getD_mem (by omega)

/-! spec_DrawSplitByte -/
def drawnTexts : List ByteArray := [(⟨#[]⟩ : ByteArray), (⟨#[97]⟩ : ByteArray), (⟨#[97, 44, 98]⟩ : ByteArray), (⟨#[44]⟩ : ByteArray), (⟨#[97, 44, 44, 98, 44]⟩ : ByteArray), (⟨#[97, 10, 98, 10]⟩ : ByteArray)]
theorem spec_DrawSplitByte.ev (l : List Int) (hl : l.length < 4611686018427387904) : ∃ s b, Ev (fun k => spec_DrawSplitByte.f k l) (s, b) ∧ s ∈ drawnTexts ∧ (b = 44 ∨ b = 10) := by
  obtain ⟨h, hh⟩ := spec_l1New.ev l hl
  obtain ⟨s, i1, h1, e1, hs, hi1⟩ := spec_l1Pick.eq l hl 0 (by omega) h drawnTexts (by simp [drawnTexts])
  obtain ⟨b, i2, h2, e2, hb, hi2⟩ := spec_l1PickInt.eq l hl i1 hi1 h1 [44, 10] (by simp)
  have hb' : b = 44 ∨ b = 10 := by simpa using hb
  refine ⟨s, b % 256, ?_, hs, by rcases hb' with rfl | rfl <;> simp⟩
  unfold spec_DrawSplitByte.f
  refine Ev.bind hh ?_
  have e1' : spec_l1Pick.f l 0 h [(⟨#[]⟩ : ByteArray), (⟨#[97]⟩ : ByteArray), (⟨#[97, 44, 98]⟩ : ByteArray), (⟨#[44]⟩ : ByteArray), (⟨#[97, 44, 44, 98, 44]⟩ : ByteArray), (⟨#[97, 10, 98, 10]⟩ : ByteArray)] = some (s, i1, h1) := e1
  simp only []
  rw [e1']
  simp only [Option.bind_some]
  rw [e2]
  exact Ev.now _

/-! impl_SplitByte -/
theorem impl_SplitByte.l0_ev (s : ByteArray) (b : Int) (hs : s.size < 1000000000000) : ∀ (d : Nat) (out : List ByteArray) (fr i : Nat), i + d = s.size → fr ≤ i → out.length ≤ i → Ev (fun k => impl_SplitByte.l0 k s b out (fr : Int) (i : Int)) (splitFrom s b d out fr i) := by
  intro d
  induction d with
  | zero =>
    intro out fr i h1 h2 h3
    refine Ev.step (fun k => by rw [impl_SplitByte.l0]) ?_
    rw [splitFrom, Int.toNat_natCast]
    exact ev_neg (by omega) (ev_pos (by omega) (ev_pos (by omega) (ev_pos (by omega) (Ev.now _))))
  | succ d ih =>
    intro out fr i h1 h2 h3
    refine Ev.step (fun k => by rw [impl_SplitByte.l0]) ?_
    refine ev_pos (by omega) (ev_pos (by omega) ?_)
    rw [wadd1 (by omega), splitFrom, Int.toNat_natCast, Int.toNat_natCast]
    by_cases e : bt s (i : Int) = b
    · rw [if_pos e]
      exact ev_pos e (ev_pos (by omega) (ev_pos (by omega) (ev_pos (by omega) (ev_pos (by omega) (ih _ _ _ (by omega) (by omega) (by simp; omega))))))
    · rw [if_neg e]
      exact ev_neg e (ih _ _ _ (by omega) (by omega) (by omega))
theorem impl_SplitByte.ev (s : ByteArray) (b : Int) (hs : s.size < 1000000000000) : Ev (fun k => impl_SplitByte.f k s b) (splitV s b) := by
  unfold impl_SplitByte.f splitV
  exact impl_SplitByte.l0_ev s b hs s.size [] 0 0 (by omega) (by omega) (by simp)

/-! spec_SplitByte -/
theorem spec_SplitByte.l0_ev (s : ByteArray) (b : Int) (hs : s.size < 1000000000000) : ∀ (d : Nat) (out : List ByteArray) (fr i : Nat), i + d = s.size → fr ≤ i → out.length ≤ i → Ev (fun k => spec_SplitByte.l0 k s b out (fr : Int) (i : Int)) (splitFrom s b d out fr i) := by
  intro d
  induction d with
  | zero =>
    intro out fr i h1 h2 h3
    refine Ev.step (fun k => by rw [spec_SplitByte.l0]) ?_
    refine ev_pos (by omega) (ev_pos (by omega) (ev_pos (by omega) (ev_pos (by omega) (ev_pos (by omega) ?_))))
    rw [wadd1 (by omega)]
    refine Ev.step (fun k => by rw [spec_SplitByte.l0]) ?_
    rw [splitFrom, Int.toNat_natCast, Int.toNat_natCast, show i = s.size by omega]
    exact ev_neg (by omega) (Ev.now _)
  | succ d ih =>
    intro out fr i h1 h2 h3
    refine Ev.step (fun k => by rw [spec_SplitByte.l0]) ?_
    refine ev_pos (by omega) (ev_neg (by omega) (ev_pos (by omega) (ev_pos (by omega) ?_)))
    rw [wadd1 (by omega), splitFrom, Int.toNat_natCast, Int.toNat_natCast]
    by_cases e : bt s (i : Int) = b
    · rw [if_pos e]
      exact ev_pos e (ev_pos (by omega) (ev_pos (by omega) (ev_pos (by omega) (ih _ _ _ (by omega) (by omega) (by simp; omega)))))
    · rw [if_neg e]
      exact ev_neg e (ih _ _ _ (by omega) (by omega) (by omega))
theorem spec_SplitByte.ev (s : ByteArray) (b : Int) (hs : s.size < 1000000000000) : Ev (fun k => spec_SplitByte.f k s b) (splitV s b) := by
  unfold spec_SplitByte.f splitV
  exact spec_SplitByte.l0_ev s b hs s.size [] 0 0 (by omega) (by omega) (by simp)

end Go.Proofs.Ytbagfnppeidonaa.PFnSplit
namespace Go.Proofs.Ytbagfnppeidonaa.Pure
open Go.RowKit Go.Proofs.YtbagfnppeidonaaW.PrintWords Go.Proofs.YtbagfnppeidonaaW.PrintLast Go.Proofs.YtbagfnppeidonaaW.PrintMore Go.Proofs.YtbagfnppeidonaaM
set_option linter.unusedVariables false
set_option linter.unusedSimpArgs false
open Go.Proofs.Ytbagfnppeidonaa.PFnSplit
/-- What the law wants of a text and a separator. -/
def SplitOk (s : ByteArray) (b : Int) : Prop := impl_Join.f (splitV s b) (strOfNums [b]) = some s ∧ ∀ x ∈ splitV s b, (splitV x b).length = 1
theorem split_0_44 : splitV (⟨#[]⟩ : ByteArray) 44 = [(⟨#[]⟩ : ByteArray)] := by kernel_rfl
theorem split_0_10 : splitV (⟨#[]⟩ : ByteArray) 10 = [(⟨#[]⟩ : ByteArray)] := by kernel_rfl
theorem split_1_44 : splitV (⟨#[97]⟩ : ByteArray) 44 = [(⟨#[97]⟩ : ByteArray)] := by kernel_rfl
theorem split_1_10 : splitV (⟨#[97]⟩ : ByteArray) 10 = [(⟨#[97]⟩ : ByteArray)] := by kernel_rfl
theorem split_2_44 : splitV (⟨#[97, 44, 98]⟩ : ByteArray) 44 = [(⟨#[97]⟩ : ByteArray), (⟨#[98]⟩ : ByteArray)] := by kernel_rfl
theorem split_2_10 : splitV (⟨#[97, 44, 98]⟩ : ByteArray) 10 = [(⟨#[97, 44, 98]⟩ : ByteArray)] := by kernel_rfl
theorem split_3_44 : splitV (⟨#[44]⟩ : ByteArray) 44 = [(⟨#[]⟩ : ByteArray), (⟨#[]⟩ : ByteArray)] := by kernel_rfl
theorem split_3_10 : splitV (⟨#[44]⟩ : ByteArray) 10 = [(⟨#[44]⟩ : ByteArray)] := by kernel_rfl
theorem split_4_44 : splitV (⟨#[97, 44, 44, 98, 44]⟩ : ByteArray) 44 = [(⟨#[97]⟩ : ByteArray), (⟨#[]⟩ : ByteArray), (⟨#[98]⟩ : ByteArray), (⟨#[]⟩ : ByteArray)] := by kernel_rfl
theorem split_4_10 : splitV (⟨#[97, 44, 44, 98, 44]⟩ : ByteArray) 10 = [(⟨#[97, 44, 44, 98, 44]⟩ : ByteArray)] := by kernel_rfl
theorem split_5_44 : splitV (⟨#[97, 10, 98, 10]⟩ : ByteArray) 44 = [(⟨#[97, 10, 98, 10]⟩ : ByteArray)] := by kernel_rfl
theorem split_5_10 : splitV (⟨#[97, 10, 98, 10]⟩ : ByteArray) 10 = [(⟨#[97]⟩ : ByteArray), (⟨#[98]⟩ : ByteArray), (⟨#[]⟩ : ByteArray)] := by kernel_rfl
theorem splitOne__44 : (splitV (⟨#[]⟩ : ByteArray) 44).length = 1 := by kernel_rfl
theorem splitOne__10 : (splitV (⟨#[]⟩ : ByteArray) 10).length = 1 := by kernel_rfl
theorem splitOne_97_44 : (splitV (⟨#[97]⟩ : ByteArray) 44).length = 1 := by kernel_rfl
theorem splitOne_97_10 : (splitV (⟨#[97]⟩ : ByteArray) 10).length = 1 := by kernel_rfl
theorem splitOne_98_44 : (splitV (⟨#[98]⟩ : ByteArray) 44).length = 1 := by kernel_rfl
theorem splitOne_97_44_98_10 : (splitV (⟨#[97, 44, 98]⟩ : ByteArray) 10).length = 1 := by kernel_rfl
theorem splitOne_44_10 : (splitV (⟨#[44]⟩ : ByteArray) 10).length = 1 := by kernel_rfl
theorem splitOne_97_44_44_98_44_10 : (splitV (⟨#[97, 44, 44, 98, 44]⟩ : ByteArray) 10).length = 1 := by kernel_rfl
theorem splitOne_97_10_98_10_44 : (splitV (⟨#[97, 10, 98, 10]⟩ : ByteArray) 44).length = 1 := by kernel_rfl
theorem splitOne_98_10 : (splitV (⟨#[98]⟩ : ByteArray) 10).length = 1 := by kernel_rfl
theorem splitOk_0_44 : SplitOk (⟨#[]⟩ : ByteArray) 44 := by
  unfold SplitOk
  rw [split_0_44]
  refine ⟨by kernel_rfl, fun x hx => ?_⟩
  simp only [List.mem_cons, List.not_mem_nil, or_false] at hx
  subst hx
  exact splitOne__44
theorem splitOk_0_10 : SplitOk (⟨#[]⟩ : ByteArray) 10 := by
  unfold SplitOk
  rw [split_0_10]
  refine ⟨by kernel_rfl, fun x hx => ?_⟩
  simp only [List.mem_cons, List.not_mem_nil, or_false] at hx
  subst hx
  exact splitOne__10
theorem splitOk_1_44 : SplitOk (⟨#[97]⟩ : ByteArray) 44 := by
  unfold SplitOk
  rw [split_1_44]
  refine ⟨by kernel_rfl, fun x hx => ?_⟩
  simp only [List.mem_cons, List.not_mem_nil, or_false] at hx
  subst hx
  exact splitOne_97_44
theorem splitOk_1_10 : SplitOk (⟨#[97]⟩ : ByteArray) 10 := by
  unfold SplitOk
  rw [split_1_10]
  refine ⟨by kernel_rfl, fun x hx => ?_⟩
  simp only [List.mem_cons, List.not_mem_nil, or_false] at hx
  subst hx
  exact splitOne_97_10
theorem splitOk_2_44 : SplitOk (⟨#[97, 44, 98]⟩ : ByteArray) 44 := by
  unfold SplitOk
  rw [split_2_44]
  refine ⟨by kernel_rfl, fun x hx => ?_⟩
  simp only [List.mem_cons, List.not_mem_nil, or_false] at hx
  rcases hx with rfl | rfl
  · exact splitOne_97_44
  · exact splitOne_98_44
theorem splitOk_2_10 : SplitOk (⟨#[97, 44, 98]⟩ : ByteArray) 10 := by
  unfold SplitOk
  rw [split_2_10]
  refine ⟨by kernel_rfl, fun x hx => ?_⟩
  simp only [List.mem_cons, List.not_mem_nil, or_false] at hx
  subst hx
  exact splitOne_97_44_98_10
theorem splitOk_3_44 : SplitOk (⟨#[44]⟩ : ByteArray) 44 := by
  unfold SplitOk
  rw [split_3_44]
  refine ⟨by kernel_rfl, fun x hx => ?_⟩
  simp only [List.mem_cons, List.not_mem_nil, or_false] at hx
  rcases hx with rfl | rfl
  · exact splitOne__44
  · exact splitOne__44
theorem splitOk_3_10 : SplitOk (⟨#[44]⟩ : ByteArray) 10 := by
  unfold SplitOk
  rw [split_3_10]
  refine ⟨by kernel_rfl, fun x hx => ?_⟩
  simp only [List.mem_cons, List.not_mem_nil, or_false] at hx
  subst hx
  exact splitOne_44_10
theorem splitOk_4_44 : SplitOk (⟨#[97, 44, 44, 98, 44]⟩ : ByteArray) 44 := by
  unfold SplitOk
  rw [split_4_44]
  refine ⟨by kernel_rfl, fun x hx => ?_⟩
  simp only [List.mem_cons, List.not_mem_nil, or_false] at hx
  rcases hx with rfl | rfl | rfl | rfl
  · exact splitOne_97_44
  · exact splitOne__44
  · exact splitOne_98_44
  · exact splitOne__44
theorem splitOk_4_10 : SplitOk (⟨#[97, 44, 44, 98, 44]⟩ : ByteArray) 10 := by
  unfold SplitOk
  rw [split_4_10]
  refine ⟨by kernel_rfl, fun x hx => ?_⟩
  simp only [List.mem_cons, List.not_mem_nil, or_false] at hx
  subst hx
  exact splitOne_97_44_44_98_44_10
theorem splitOk_5_44 : SplitOk (⟨#[97, 10, 98, 10]⟩ : ByteArray) 44 := by
  unfold SplitOk
  rw [split_5_44]
  refine ⟨by kernel_rfl, fun x hx => ?_⟩
  simp only [List.mem_cons, List.not_mem_nil, or_false] at hx
  subst hx
  exact splitOne_97_10_98_10_44
theorem splitOk_5_10 : SplitOk (⟨#[97, 10, 98, 10]⟩ : ByteArray) 10 := by
  unfold SplitOk
  rw [split_5_10]
  refine ⟨by kernel_rfl, fun x hx => ?_⟩
  simp only [List.mem_cons, List.not_mem_nil, or_false] at hx
  rcases hx with rfl | rfl | rfl
  · exact splitOne_97_10
  · exact splitOne_98_10
  · exact splitOne__10
theorem splitOk_all {s : ByteArray} {b : Int} (hs : s ∈ drawnTexts) (hb : b = 44 ∨ b = 10) : SplitOk s b := by
  simp only [drawnTexts, List.mem_cons, List.not_mem_nil, or_false] at hs
  rcases hs with rfl | rfl | rfl | rfl | rfl | rfl <;> rcases hb with rfl | rfl
  · exact splitOk_0_44
  · exact splitOk_0_10
  · exact splitOk_1_44
  · exact splitOk_1_10
  · exact splitOk_2_44
  · exact splitOk_2_10
  · exact splitOk_3_44
  · exact splitOk_3_10
  · exact splitOk_4_44
  · exact splitOk_4_10
  · exact splitOk_5_44
  · exact splitOk_5_10
theorem drawn_small {s : ByteArray} (hs : s ∈ drawnTexts) : s.size ≤ 5 := by
  simp only [drawnTexts, List.mem_cons, List.not_mem_nil, or_false] at hs
  rcases hs with rfl | rfl | rfl | rfl | rfl | rfl <;> decide
theorem FnSplit.l0_ev (b : Int) (p : List ByteArray) (hp : p.length ≤ 100) (hone : ∀ x ∈ p, (splitV x b).length = 1) (hsz : ∀ x ∈ p, x.size < 1000000000000) : ∀ (d j : Nat), j + d = p.length → Ev (fun k => laws_FnSplit.l0 k b p (j : Int)) true := by
  intro d
  induction d with
  | zero =>
    intro j h1
    refine Ev.step (fun k => by rw [laws_FnSplit.l0]) ?_
    exact ev_neg (by omega) (Ev.now _)
  | succ d ih =>
    intro j h1
    have hj : j < p.length := by omega
    have hm : p.getD j ByteArray.empty ∈ p := by
      have : p.getD j ByteArray.empty = p[j] := by simp [List.getD_eq_getElem?_getD, hj]
      rw [this]; exact List.getElem_mem hj
    refine Ev.step (fun k => by rw [laws_FnSplit.l0]) ?_
    rw [wadd1 (j := j) (by omega), rdOf_nat]
    refine ev_pos (by omega) (ev_pos (by omega) (Ev.bind (impl_SplitByte.ev _ b (hsz _ hm)) ?_))
    exact ev_pos (by rw [hone _ hm]; rfl) (ih (j + 1) (by omega))
theorem split_part_small (s : ByteArray) (b : Int) (hs : s.size ≤ 5) : ∀ (d : Nat) (out : List ByteArray) (fr i : Nat), (∀ x ∈ out, x.size ≤ 5) → ∀ x ∈ splitFrom s b d out fr i, x.size ≤ 5 := by
  have he : ∀ p q : Nat, (s.extract p q).size ≤ 5 := fun p q => by
    rw [ByteArray.size_extract]; omega
  intro d
  induction d with
  | zero =>
    intro out fr i h x hx
    rw [splitFrom, List.mem_append, List.mem_singleton] at hx
    rcases hx with hx | rfl
    · exact h x hx
    · exact he _ _
  | succ d ih =>
    intro out fr i h
    rw [splitFrom]
    split
    · refine ih _ _ _ (fun x hx => ?_)
      rw [List.mem_append, List.mem_singleton] at hx
      rcases hx with hx | rfl
      · exact h x hx
      · exact he _ _
    · exact ih _ _ _ h
theorem FnSplit : laws_FnSplit.Pure := by
  intro l0 hl hl8 hw
  refine Ev.rounds ?_
  unfold laws_FnSplit.f
  rw [laws_big.eq]
  simp only [Option.bind_some]
  by_cases h : (l0.length : Int) > 1048576
  · exact ev_pos (decide_eq_true h) (Ev.now _)
  · refine ev_neg (by simpa using h) ?_
    obtain ⟨s, b, hd, hs, hb⟩ := spec_DrawSplitByte.ev l0 (by omega)
    obtain ⟨k1, k2⟩ := splitOk_all hs hb
    have h5 := drawn_small hs
    have hlen := splitV_length s b
    refine Ev.bind hd (Ev.bind (impl_SplitByte.ev s b (by omega)) ?_)
    rw [k1]
    simp only [Option.bind_some]
    refine ev_pos (by trivial) (Ev.bind (spec_SplitByte.ev s b (by omega)) ?_)
    rw [bne_self_eq_false]
    refine Ev.step (fun k => by rw [laws_FnSplit.j0]) ?_
    exact ev_neg (by simp) (FnSplit.l0_ev b (splitV s b) (by omega) k2 (fun x hx => by
      have := split_part_small s b h5 s.size [] 0 0 (by simp) x hx
      omega) (splitV s b).length 0 (by omega))

end Go.Proofs.Ytbagfnppeidonaa.Pure
