/-
  DERIVED. GIVEN WITH THE SEED: THE CARDS: each row of YtplmcifjgmcmhaaDoorRows.lean that lists a variable, with what it lists TIED to the program's text (the seventh form; the later family's looks); each row that meets fmt, with fmt's text TOLD by the authors' own Lean function (tested against real Go, not proved from fmt's source: count such statements apart). THE CARD IS WHAT COUNTS. Prove the row's statement (the work); the ties are given (YtplmcifjgmcmhaaDoorTie.lean); close each card by the builder's one call (the guide's Derived/Test/ToyasCard.lean, 'card_holds'). Laid BY PROGRAM, IN A SANDBOX (cutbox-door.mjs). By AI agents, Wed Nov 11 2026. No macro, syntax, notation, axiom, sorry.
-/
import Derived.Test.YtplmcifjgmcmhaaDoorRows
import GoSem.ClaimSeven
namespace Go.Proofs.YtplmcifjgmcmhaaDoor
namespace Rows

/-- THE TIED CARD OF 'laws.FnExactFormatInt'. -/
def fnExactFormatIntCard : Claim7 := { stood := { row := fnExactFormatIntRow, standIns := [], harness := (true, "f77ffe4bb26a4de8a726e30a80871faacf73093a74f964ede1d515c92d27f90a"), looks := false }, kinds := [], alts := [], laidByText := true, laidKinds := [.data, .data, .data], laidTests := true, laidLooks := .later }
def FnExactFormatIntCardSaid : Prop := Claim7.holds Tryd.pinned (.plain (OpenSpec.ofChange fnExactFormatIntSpec)) fnExactFormatIntCard

/-- THE TIED CARD OF 'laws.FnExactParseInt'. -/
def fnExactParseIntCard : Claim7 := { stood := { row := fnExactParseIntRow, standIns := [], harness := (true, "f77ffe4bb26a4de8a726e30a80871faacf73093a74f964ede1d515c92d27f90a"), looks := false }, kinds := [], alts := [], laidByText := true, laidKinds := [.data, .data, .data], laidTests := true, laidLooks := .later }
def FnExactParseIntCardSaid : Prop := Claim7.holds Tryd.pinned (.plain (OpenSpec.ofChange fnExactParseIntSpec)) fnExactParseIntCard

/-- THE TIED CARD OF 'laws.FnExactParseNumber'. -/
def fnExactParseNumberCard : Claim7 := { stood := { row := fnExactParseNumberRow, standIns := [], harness := (true, "f77ffe4bb26a4de8a726e30a80871faacf73093a74f964ede1d515c92d27f90a"), looks := false }, kinds := [], alts := [], laidByText := true, laidKinds := [.data, .data, .data], laidTests := true, laidLooks := .later }
def FnExactParseNumberCardSaid : Prop := Claim7.holds Tryd.pinned (.plain (OpenSpec.ofChange fnExactParseNumberSpec)) fnExactParseNumberCard

/-- THE TIED CARD OF 'laws.FnExactListText'. -/
def fnExactListTextCard : Claim7 := { stood := { row := fnExactListTextRow, standIns := [], harness := (true, "f77ffe4bb26a4de8a726e30a80871faacf73093a74f964ede1d515c92d27f90a"), looks := false }, kinds := [], alts := [], laidByText := true, laidKinds := [.data, .data, .data], laidTests := true, laidLooks := .later }
def FnExactListTextCardSaid : Prop := Claim7.holds Tryd.pinned (.plain (OpenSpec.ofChange fnExactListTextSpec)) fnExactListTextCard

/-- THE TIED CARD OF 'laws.FnNumbers'. -/
def fnNumbersCard : Claim7 := { stood := { row := fnNumbersRow, standIns := [], harness := (true, "f77ffe4bb26a4de8a726e30a80871faacf73093a74f964ede1d515c92d27f90a"), looks := false }, kinds := [], alts := [], laidByText := true, laidKinds := [.data, .data, .data], laidTests := true, laidLooks := .later }
def FnNumbersCardSaid : Prop := Claim7.holds Tryd.pinned (.plain (OpenSpec.ofChange fnNumbersSpec)) fnNumbersCard

/-- THE TIED CARD OF 'laws.FnExactParseList'. -/
def fnExactParseListCard : Claim7 := { stood := { row := fnExactParseListRow, standIns := [], harness := (true, "f77ffe4bb26a4de8a726e30a80871faacf73093a74f964ede1d515c92d27f90a"), looks := false }, kinds := [], alts := [], laidByText := true, laidKinds := [.data, .data, .data], laidTests := true, laidLooks := .later }
def FnExactParseListCardSaid : Prop := Claim7.holds Tryd.pinned (.plain (OpenSpec.ofChange fnExactParseListSpec)) fnExactParseListCard

/-- THE TIED CARD OF 'laws.FnExactSemigroupText'. -/
def fnExactSemigroupTextCard : Claim7 := { stood := { row := fnExactSemigroupTextRow, standIns := [], harness := (true, "f77ffe4bb26a4de8a726e30a80871faacf73093a74f964ede1d515c92d27f90a"), looks := false }, kinds := [], alts := [], laidByText := true, laidKinds := [.data, .data, .data], laidTests := true, laidLooks := .later }
def FnExactSemigroupTextCardSaid : Prop := Claim7.holds Tryd.pinned (.plain (OpenSpec.ofChange fnExactSemigroupTextSpec)) fnExactSemigroupTextCard

/-- THE TIED CARD OF 'laws.FnExactGapText'. -/
def fnExactGapTextCard : Claim7 := { stood := { row := fnExactGapTextRow, standIns := [], harness := (true, "f77ffe4bb26a4de8a726e30a80871faacf73093a74f964ede1d515c92d27f90a"), looks := false }, kinds := [], alts := [], laidByText := true, laidKinds := [.data, .data, .data], laidTests := true, laidLooks := .later }
def FnExactGapTextCardSaid : Prop := Claim7.holds Tryd.pinned (.plain (OpenSpec.ofChange fnExactGapTextSpec)) fnExactGapTextCard

/-- THE TIED CARD OF 'laws.FnExactParseSemigroup'. -/
def fnExactParseSemigroupCard : Claim7 := { stood := { row := fnExactParseSemigroupRow, standIns := [], harness := (true, "f77ffe4bb26a4de8a726e30a80871faacf73093a74f964ede1d515c92d27f90a"), looks := false }, kinds := [], alts := [], laidByText := true, laidKinds := [.data, .data, .data], laidTests := true, laidLooks := .later }
def FnExactParseSemigroupCardSaid : Prop := Claim7.holds Tryd.pinned (.plain (OpenSpec.ofChange fnExactParseSemigroupSpec)) fnExactParseSemigroupCard

/-- THE TIED CARD OF 'laws.FnTexts'. -/
def fnTextsCard : Claim7 := { stood := { row := fnTextsRow, standIns := [], harness := (true, "f77ffe4bb26a4de8a726e30a80871faacf73093a74f964ede1d515c92d27f90a"), looks := false }, kinds := [], alts := [], laidByText := true, laidKinds := [.data, .data, .data], laidTests := true, laidLooks := .later }
def FnTextsCardSaid : Prop := Claim7.holds Tryd.pinned (.plain (OpenSpec.ofChange fnTextsSpec)) fnTextsCard

/-- THE SECOND FORM's CARD OF 'laws.FnExactFormatInt'. -/
def fnExactFormatIntUptoCard : Claim7 := { stood := { row := fnExactFormatIntUptoRow, standIns := [], harness := (true, "f77ffe4bb26a4de8a726e30a80871faacf73093a74f964ede1d515c92d27f90a"), looks := false }, kinds := [], alts := [], laidByText := true, laidKinds := [.data, .data, .data], laidTests := true, laidLooks := .later }
def FnExactFormatIntUptoCardSaid : Prop := Claim7.holds Tryd.pinned (.plain (OpenSpec.upto fnExactFormatIntSpec)) fnExactFormatIntUptoCard

/-- THE SECOND FORM's CARD OF 'laws.FnExactParseInt'. -/
def fnExactParseIntUptoCard : Claim7 := { stood := { row := fnExactParseIntUptoRow, standIns := [], harness := (true, "f77ffe4bb26a4de8a726e30a80871faacf73093a74f964ede1d515c92d27f90a"), looks := false }, kinds := [], alts := [], laidByText := true, laidKinds := [.data, .data, .data], laidTests := true, laidLooks := .later }
def FnExactParseIntUptoCardSaid : Prop := Claim7.holds Tryd.pinned (.plain (OpenSpec.upto fnExactParseIntSpec)) fnExactParseIntUptoCard

/-- THE SECOND FORM's CARD OF 'laws.FnExactParseNumber'. -/
def fnExactParseNumberUptoCard : Claim7 := { stood := { row := fnExactParseNumberUptoRow, standIns := [], harness := (true, "f77ffe4bb26a4de8a726e30a80871faacf73093a74f964ede1d515c92d27f90a"), looks := false }, kinds := [], alts := [], laidByText := true, laidKinds := [.data, .data, .data], laidTests := true, laidLooks := .later }
def FnExactParseNumberUptoCardSaid : Prop := Claim7.holds Tryd.pinned (.plain (OpenSpec.upto fnExactParseNumberSpec)) fnExactParseNumberUptoCard

/-- THE SECOND FORM's CARD OF 'laws.FnExactListText'. -/
def fnExactListTextUptoCard : Claim7 := { stood := { row := fnExactListTextUptoRow, standIns := [], harness := (true, "f77ffe4bb26a4de8a726e30a80871faacf73093a74f964ede1d515c92d27f90a"), looks := false }, kinds := [], alts := [], laidByText := true, laidKinds := [.data, .data, .data], laidTests := true, laidLooks := .later }
def FnExactListTextUptoCardSaid : Prop := Claim7.holds Tryd.pinned (.plain (OpenSpec.upto fnExactListTextSpec)) fnExactListTextUptoCard

/-- THE SECOND FORM's CARD OF 'laws.FnNumbers'. -/
def fnNumbersUptoCard : Claim7 := { stood := { row := fnNumbersUptoRow, standIns := [], harness := (true, "f77ffe4bb26a4de8a726e30a80871faacf73093a74f964ede1d515c92d27f90a"), looks := false }, kinds := [], alts := [], laidByText := true, laidKinds := [.data, .data, .data], laidTests := true, laidLooks := .later }
def FnNumbersUptoCardSaid : Prop := Claim7.holds Tryd.pinned (.plain (OpenSpec.upto fnNumbersSpec)) fnNumbersUptoCard

/-- THE SECOND FORM's CARD OF 'laws.FnExactParseList'. -/
def fnExactParseListUptoCard : Claim7 := { stood := { row := fnExactParseListUptoRow, standIns := [], harness := (true, "f77ffe4bb26a4de8a726e30a80871faacf73093a74f964ede1d515c92d27f90a"), looks := false }, kinds := [], alts := [], laidByText := true, laidKinds := [.data, .data, .data], laidTests := true, laidLooks := .later }
def FnExactParseListUptoCardSaid : Prop := Claim7.holds Tryd.pinned (.plain (OpenSpec.upto fnExactParseListSpec)) fnExactParseListUptoCard

/-- THE SECOND FORM's CARD OF 'laws.FnExactSemigroupText'. -/
def fnExactSemigroupTextUptoCard : Claim7 := { stood := { row := fnExactSemigroupTextUptoRow, standIns := [], harness := (true, "f77ffe4bb26a4de8a726e30a80871faacf73093a74f964ede1d515c92d27f90a"), looks := false }, kinds := [], alts := [], laidByText := true, laidKinds := [.data, .data, .data], laidTests := true, laidLooks := .later }
def FnExactSemigroupTextUptoCardSaid : Prop := Claim7.holds Tryd.pinned (.plain (OpenSpec.upto fnExactSemigroupTextSpec)) fnExactSemigroupTextUptoCard

/-- THE SECOND FORM's CARD OF 'laws.FnExactGapText'. -/
def fnExactGapTextUptoCard : Claim7 := { stood := { row := fnExactGapTextUptoRow, standIns := [], harness := (true, "f77ffe4bb26a4de8a726e30a80871faacf73093a74f964ede1d515c92d27f90a"), looks := false }, kinds := [], alts := [], laidByText := true, laidKinds := [.data, .data, .data], laidTests := true, laidLooks := .later }
def FnExactGapTextUptoCardSaid : Prop := Claim7.holds Tryd.pinned (.plain (OpenSpec.upto fnExactGapTextSpec)) fnExactGapTextUptoCard

/-- THE SECOND FORM's CARD OF 'laws.FnExactParseSemigroup'. -/
def fnExactParseSemigroupUptoCard : Claim7 := { stood := { row := fnExactParseSemigroupUptoRow, standIns := [], harness := (true, "f77ffe4bb26a4de8a726e30a80871faacf73093a74f964ede1d515c92d27f90a"), looks := false }, kinds := [], alts := [], laidByText := true, laidKinds := [.data, .data, .data], laidTests := true, laidLooks := .later }
def FnExactParseSemigroupUptoCardSaid : Prop := Claim7.holds Tryd.pinned (.plain (OpenSpec.upto fnExactParseSemigroupSpec)) fnExactParseSemigroupUptoCard

/-- THE SECOND FORM's CARD OF 'laws.FnTexts'. -/
def fnTextsUptoCard : Claim7 := { stood := { row := fnTextsUptoRow, standIns := [], harness := (true, "f77ffe4bb26a4de8a726e30a80871faacf73093a74f964ede1d515c92d27f90a"), looks := false }, kinds := [], alts := [], laidByText := true, laidKinds := [.data, .data, .data], laidTests := true, laidLooks := .later }
def FnTextsUptoCardSaid : Prop := Claim7.holds Tryd.pinned (.plain (OpenSpec.upto fnTextsSpec)) fnTextsUptoCard
end Rows
end Go.Proofs.YtplmcifjgmcmhaaDoor
