/-
  DERIVED. GIVEN WITH THE SEED: THE CARDS: each row of YtjagmhagphbfcaaGreatDoorRows.lean that lists a variable, with what it lists TIED to the program's text (the seventh form; the later family's looks); each row that meets fmt, with fmt's text TOLD by the authors' own Lean function (tested against real Go, not proved from fmt's source: count such statements apart). THE CARD IS WHAT COUNTS. Prove the row's statement (the work); the ties are given (YtjagmhagphbfcaaGreatDoorTie.lean); close each card by the builder's one call (the guide's Derived/Test/ToyasCard.lean, 'card_holds'). Laid BY PROGRAM, IN A SANDBOX (cutbox-door.mjs). By AI agents, Wed Nov 11 2026. No macro, syntax, notation, axiom, sorry.
-/
import Derived.Test.YtjagmhagphbfcaaGreatDoorRows
import GoSem.ClaimSeven
namespace Go.Proofs.YtjagmhagphbfcaaGreatDoor
namespace Rows

/-- THE TIED CARD OF 'nosalelaw03.TagPrices'. -/
def tagPricesCard : Claim7 := { stood := { row := tagPricesRow, standIns := [], harness := (true, "f07a5fa70ed6775463b7a086f57573263f2086de7ec9f9dbb2d285f1a5080804"), looks := false }, kinds := [], alts := [], goes := true, laidByText := true, laidKinds := [.funcs], laidTests := true, laidLooks := .later }
def TagPricesCardSaid : Prop := Claim7.holds Tryz.pinned (.plain (OpenSpec.ofChange tagPricesSpec)) tagPricesCard

/-- THE TIED CARD OF 'nosalelaw03.TagRound'. -/
def tagRoundCard : Claim7 := { stood := { row := tagRoundRow, standIns := [], harness := (true, "f07a5fa70ed6775463b7a086f57573263f2086de7ec9f9dbb2d285f1a5080804"), looks := false }, kinds := [], alts := [], goes := true, laidByText := true, laidKinds := [.funcs], laidTests := true, laidLooks := .later }
def TagRoundCardSaid : Prop := Claim7.holds Tryz.pinned (.plain (OpenSpec.ofChange tagRoundSpec)) tagRoundCard

/-- THE TIED CARD OF 'nosalelaw03.TagMeant'. -/
def tagMeantCard : Claim7 := { stood := { row := tagMeantRow, standIns := [], harness := (true, "f07a5fa70ed6775463b7a086f57573263f2086de7ec9f9dbb2d285f1a5080804"), looks := false }, kinds := [], alts := [], goes := true, laidByText := true, laidKinds := [.funcs], laidTests := true, laidLooks := .later }
def TagMeantCardSaid : Prop := Claim7.holds Tryz.pinned (.plain (OpenSpec.ofChange tagMeantSpec)) tagMeantCard

/-- THE TIED CARD OF 'nosalelaw03.TagClashes'. -/
def tagClashesCard : Claim7 := { stood := { row := tagClashesRow, standIns := [], harness := (true, "f07a5fa70ed6775463b7a086f57573263f2086de7ec9f9dbb2d285f1a5080804"), looks := false }, kinds := [], alts := [], goes := true, laidByText := true, laidKinds := [.funcs], laidTests := true, laidLooks := .later }
def TagClashesCardSaid : Prop := Claim7.holds Tryz.pinned (.plain (OpenSpec.ofChange tagClashesSpec)) tagClashesCard

/-- THE TIED CARD OF 'nosalelaw03.TagAsked'. -/
def tagAskedCard : Claim7 := { stood := { row := tagAskedRow, standIns := [], harness := (true, "f07a5fa70ed6775463b7a086f57573263f2086de7ec9f9dbb2d285f1a5080804"), looks := false }, kinds := [], alts := [], goes := true, laidByText := true, laidKinds := [.funcs], laidTests := true, laidLooks := .later }
def TagAskedCardSaid : Prop := Claim7.holds Tryz.pinned (.plain (OpenSpec.ofChange tagAskedSpec)) tagAskedCard

/-- THE TIED CARD OF 'nosalelaw03.TagPlainly'. -/
def tagPlainlyCard : Claim7 := { stood := { row := tagPlainlyRow, standIns := [], harness := (true, "f07a5fa70ed6775463b7a086f57573263f2086de7ec9f9dbb2d285f1a5080804"), looks := false }, kinds := [], alts := [], goes := true, laidByText := true, laidKinds := [.funcs], laidTests := true, laidLooks := .later }
def TagPlainlyCardSaid : Prop := Claim7.holds Tryz.pinned (.plain (OpenSpec.ofChange tagPlainlySpec)) tagPlainlyCard

/-- THE TIED CARD OF 'nosalelaw03.TagAnyOrder'. -/
def tagAnyOrderCard : Claim7 := { stood := { row := tagAnyOrderRow, standIns := [], harness := (true, "f07a5fa70ed6775463b7a086f57573263f2086de7ec9f9dbb2d285f1a5080804"), looks := false }, kinds := [], alts := [], goes := true, laidByText := true, laidKinds := [.funcs], laidTests := true, laidLooks := .later }
def TagAnyOrderCardSaid : Prop := Claim7.holds Tryz.pinned (.plain (OpenSpec.ofChange tagAnyOrderSpec)) tagAnyOrderCard

/-- THE TIED CARD OF 'nosalelaw03.TagWords'. -/
def tagWordsCard : Claim7 := { stood := { row := tagWordsRow, standIns := [], harness := (true, "f07a5fa70ed6775463b7a086f57573263f2086de7ec9f9dbb2d285f1a5080804"), looks := false }, kinds := [], alts := [], goes := true, laidByText := true, laidKinds := [.funcs], laidTests := true, laidLooks := .later }
def TagWordsCardSaid : Prop := Claim7.holds Tryz.pinned (.plain (OpenSpec.ofChange tagWordsSpec)) tagWordsCard

/-- THE TIED CARD OF 'nosalelaw03.TagReal'. -/
def tagRealCard : Claim7 := { stood := { row := tagRealRow, standIns := [], harness := (true, "f07a5fa70ed6775463b7a086f57573263f2086de7ec9f9dbb2d285f1a5080804"), looks := false }, kinds := [], alts := [], goes := true, laidByText := true, laidKinds := [.funcs], laidTests := true, laidLooks := .later }
def TagRealCardSaid : Prop := Claim7.holds Tryz.pinned (.plain (OpenSpec.ofChange tagRealSpec)) tagRealCard

/-- THE TIED CARD OF 'nosalelaw03.TagReached'. -/
def tagReachedCard : Claim7 := { stood := { row := tagReachedRow, standIns := [], harness := (true, "f07a5fa70ed6775463b7a086f57573263f2086de7ec9f9dbb2d285f1a5080804"), looks := false }, kinds := [], alts := [], goes := true, laidByText := true, laidKinds := [.funcs], laidTests := true, laidLooks := .later }
def TagReachedCardSaid : Prop := Claim7.holds Tryz.pinned (.plain (OpenSpec.ofChange tagReachedSpec)) tagReachedCard

/-- THE TIED CARD OF 'nosalelaw03.TagLearnt'. -/
def tagLearntCard : Claim7 := { stood := { row := tagLearntRow, standIns := [], harness := (true, "f07a5fa70ed6775463b7a086f57573263f2086de7ec9f9dbb2d285f1a5080804"), looks := false }, kinds := [], alts := [], goes := true, laidByText := true, laidKinds := [.funcs], laidTests := true, laidLooks := .later }
def TagLearntCardSaid : Prop := Claim7.holds Tryz.pinned (.plain (OpenSpec.ofChange tagLearntSpec)) tagLearntCard

/-- THE TIED CARD OF 'nosalelaw03.TagLettered'. -/
def tagLetteredCard : Claim7 := { stood := { row := tagLetteredRow, standIns := [], harness := (true, "f07a5fa70ed6775463b7a086f57573263f2086de7ec9f9dbb2d285f1a5080804"), looks := false }, kinds := [], alts := [], goes := true, laidByText := true, laidKinds := [.data, .funcs, .pinned], laidTests := true, laidLooks := .later }
def TagLetteredCardSaid : Prop := Claim7.holds Tryz.pinned (.plain (OpenSpec.ofChange tagLetteredSpec)) tagLetteredCard

/-- THE TIED CARD OF 'nosalelaw03.TagNews'. -/
def tagNewsCard : Claim7 := { stood := { row := tagNewsRow, standIns := [], harness := (true, "f07a5fa70ed6775463b7a086f57573263f2086de7ec9f9dbb2d285f1a5080804"), looks := false }, kinds := [], alts := [], goes := true, laidByText := true, laidKinds := [.data, .funcs, .pinned], laidTests := true, laidLooks := .later }
def TagNewsCardSaid : Prop := Claim7.holds Tryz.pinned (.plain (OpenSpec.ofChange tagNewsSpec)) tagNewsCard

/-- THE SECOND FORM's CARD OF 'nosalelaw03.TagPrices'. -/
def tagPricesUptoCard : Claim7 := { stood := { row := tagPricesUptoRow, standIns := [], harness := (true, "f07a5fa70ed6775463b7a086f57573263f2086de7ec9f9dbb2d285f1a5080804"), looks := false }, kinds := [], alts := [], goes := true, laidByText := true, laidKinds := [.funcs], laidTests := true, laidLooks := .later }
def TagPricesUptoCardSaid : Prop := Claim7.holds Tryz.pinned (.plain (OpenSpec.upto tagPricesSpec)) tagPricesUptoCard

/-- THE SECOND FORM's CARD OF 'nosalelaw03.TagRound'. -/
def tagRoundUptoCard : Claim7 := { stood := { row := tagRoundUptoRow, standIns := [], harness := (true, "f07a5fa70ed6775463b7a086f57573263f2086de7ec9f9dbb2d285f1a5080804"), looks := false }, kinds := [], alts := [], goes := true, laidByText := true, laidKinds := [.funcs], laidTests := true, laidLooks := .later }
def TagRoundUptoCardSaid : Prop := Claim7.holds Tryz.pinned (.plain (OpenSpec.upto tagRoundSpec)) tagRoundUptoCard

/-- THE SECOND FORM's CARD OF 'nosalelaw03.TagMeant'. -/
def tagMeantUptoCard : Claim7 := { stood := { row := tagMeantUptoRow, standIns := [], harness := (true, "f07a5fa70ed6775463b7a086f57573263f2086de7ec9f9dbb2d285f1a5080804"), looks := false }, kinds := [], alts := [], goes := true, laidByText := true, laidKinds := [.funcs], laidTests := true, laidLooks := .later }
def TagMeantUptoCardSaid : Prop := Claim7.holds Tryz.pinned (.plain (OpenSpec.upto tagMeantSpec)) tagMeantUptoCard

/-- THE SECOND FORM's CARD OF 'nosalelaw03.TagClashes'. -/
def tagClashesUptoCard : Claim7 := { stood := { row := tagClashesUptoRow, standIns := [], harness := (true, "f07a5fa70ed6775463b7a086f57573263f2086de7ec9f9dbb2d285f1a5080804"), looks := false }, kinds := [], alts := [], goes := true, laidByText := true, laidKinds := [.funcs], laidTests := true, laidLooks := .later }
def TagClashesUptoCardSaid : Prop := Claim7.holds Tryz.pinned (.plain (OpenSpec.upto tagClashesSpec)) tagClashesUptoCard

/-- THE SECOND FORM's CARD OF 'nosalelaw03.TagAsked'. -/
def tagAskedUptoCard : Claim7 := { stood := { row := tagAskedUptoRow, standIns := [], harness := (true, "f07a5fa70ed6775463b7a086f57573263f2086de7ec9f9dbb2d285f1a5080804"), looks := false }, kinds := [], alts := [], goes := true, laidByText := true, laidKinds := [.funcs], laidTests := true, laidLooks := .later }
def TagAskedUptoCardSaid : Prop := Claim7.holds Tryz.pinned (.plain (OpenSpec.upto tagAskedSpec)) tagAskedUptoCard

/-- THE SECOND FORM's CARD OF 'nosalelaw03.TagPlainly'. -/
def tagPlainlyUptoCard : Claim7 := { stood := { row := tagPlainlyUptoRow, standIns := [], harness := (true, "f07a5fa70ed6775463b7a086f57573263f2086de7ec9f9dbb2d285f1a5080804"), looks := false }, kinds := [], alts := [], goes := true, laidByText := true, laidKinds := [.funcs], laidTests := true, laidLooks := .later }
def TagPlainlyUptoCardSaid : Prop := Claim7.holds Tryz.pinned (.plain (OpenSpec.upto tagPlainlySpec)) tagPlainlyUptoCard

/-- THE SECOND FORM's CARD OF 'nosalelaw03.TagAnyOrder'. -/
def tagAnyOrderUptoCard : Claim7 := { stood := { row := tagAnyOrderUptoRow, standIns := [], harness := (true, "f07a5fa70ed6775463b7a086f57573263f2086de7ec9f9dbb2d285f1a5080804"), looks := false }, kinds := [], alts := [], goes := true, laidByText := true, laidKinds := [.funcs], laidTests := true, laidLooks := .later }
def TagAnyOrderUptoCardSaid : Prop := Claim7.holds Tryz.pinned (.plain (OpenSpec.upto tagAnyOrderSpec)) tagAnyOrderUptoCard

/-- THE SECOND FORM's CARD OF 'nosalelaw03.TagWords'. -/
def tagWordsUptoCard : Claim7 := { stood := { row := tagWordsUptoRow, standIns := [], harness := (true, "f07a5fa70ed6775463b7a086f57573263f2086de7ec9f9dbb2d285f1a5080804"), looks := false }, kinds := [], alts := [], goes := true, laidByText := true, laidKinds := [.funcs], laidTests := true, laidLooks := .later }
def TagWordsUptoCardSaid : Prop := Claim7.holds Tryz.pinned (.plain (OpenSpec.upto tagWordsSpec)) tagWordsUptoCard

/-- THE SECOND FORM's CARD OF 'nosalelaw03.TagReal'. -/
def tagRealUptoCard : Claim7 := { stood := { row := tagRealUptoRow, standIns := [], harness := (true, "f07a5fa70ed6775463b7a086f57573263f2086de7ec9f9dbb2d285f1a5080804"), looks := false }, kinds := [], alts := [], goes := true, laidByText := true, laidKinds := [.funcs], laidTests := true, laidLooks := .later }
def TagRealUptoCardSaid : Prop := Claim7.holds Tryz.pinned (.plain (OpenSpec.upto tagRealSpec)) tagRealUptoCard

/-- THE SECOND FORM's CARD OF 'nosalelaw03.TagReached'. -/
def tagReachedUptoCard : Claim7 := { stood := { row := tagReachedUptoRow, standIns := [], harness := (true, "f07a5fa70ed6775463b7a086f57573263f2086de7ec9f9dbb2d285f1a5080804"), looks := false }, kinds := [], alts := [], goes := true, laidByText := true, laidKinds := [.funcs], laidTests := true, laidLooks := .later }
def TagReachedUptoCardSaid : Prop := Claim7.holds Tryz.pinned (.plain (OpenSpec.upto tagReachedSpec)) tagReachedUptoCard

/-- THE SECOND FORM's CARD OF 'nosalelaw03.TagLearnt'. -/
def tagLearntUptoCard : Claim7 := { stood := { row := tagLearntUptoRow, standIns := [], harness := (true, "f07a5fa70ed6775463b7a086f57573263f2086de7ec9f9dbb2d285f1a5080804"), looks := false }, kinds := [], alts := [], goes := true, laidByText := true, laidKinds := [.funcs], laidTests := true, laidLooks := .later }
def TagLearntUptoCardSaid : Prop := Claim7.holds Tryz.pinned (.plain (OpenSpec.upto tagLearntSpec)) tagLearntUptoCard

/-- THE SECOND FORM's CARD OF 'nosalelaw03.TagLettered'. -/
def tagLetteredUptoCard : Claim7 := { stood := { row := tagLetteredUptoRow, standIns := [], harness := (true, "f07a5fa70ed6775463b7a086f57573263f2086de7ec9f9dbb2d285f1a5080804"), looks := false }, kinds := [], alts := [], goes := true, laidByText := true, laidKinds := [.data, .funcs, .pinned], laidTests := true, laidLooks := .later }
def TagLetteredUptoCardSaid : Prop := Claim7.holds Tryz.pinned (.plain (OpenSpec.upto tagLetteredSpec)) tagLetteredUptoCard

/-- THE SECOND FORM's CARD OF 'nosalelaw03.TagNews'. -/
def tagNewsUptoCard : Claim7 := { stood := { row := tagNewsUptoRow, standIns := [], harness := (true, "f07a5fa70ed6775463b7a086f57573263f2086de7ec9f9dbb2d285f1a5080804"), looks := false }, kinds := [], alts := [], goes := true, laidByText := true, laidKinds := [.data, .funcs, .pinned], laidTests := true, laidLooks := .later }
def TagNewsUptoCardSaid : Prop := Claim7.holds Tryz.pinned (.plain (OpenSpec.upto tagNewsSpec)) tagNewsUptoCard
end Rows
end Go.Proofs.YtjagmhagphbfcaaGreatDoor
