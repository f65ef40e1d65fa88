/- Lemmas, part 33. -/
import Derived.Test.YtjagmhagphbfcaaGreatDoorQ32
set_option maxRecDepth 100000
set_option linter.all false
namespace Go.Proofs.YtjagmhagphbfcaaGreatDoor
open Go Go.Proofs Go.Conc Go.ChangeShapes Go.WideShapes Go.ChangeAt Go.RowKit
theorem arR:Tryz.pinned.checked.prog.funcNamed Rows.tagWordsRow.func=some 10:=by kernel_rfl
set_option maxHeartbeats 10000000 in
theorem arA:joinedFacts Tryz.pinned.checked.prog 10 Tryz.f10 Rows.tagWordsSpec Rows.tagWordsRow=true:=by
 unfold joinedFacts;simp only[aaZ]
 repeat' refine And.intro ?_ ?_
 all_goals as_aux_lemma=>kernel_rfl
theorem asd:Tryz.f10.isInstance Tryz.pinned.checked.prog Rows.tagWordsRow.origin Rows.tagWordsRow.targs:=afQ (by kernel_rfl)
theorem asb:Tryz.f10.isWrapper Tryz.pinned.checked.prog Rows.tagWordsRow.wrapper Rows.tagWordsRow.mainSum:=by unfold Func.isWrapper;first|(rw[aay (by decide+kernel)];kernel_rfl)|(rw[aat (by decide+kernel)];exact⟨rfl,rfl⟩)
theorem asc:Rows.TagWordsSaid:=
 OpenClaim.holds_of_wide_leaving 10 Tryz.f10 rfl rfl rfl rfl rfl rfl rfl ⟨rfl,rfl,rfl,rfl,rfl⟩ rfl rfl rfl rfl rfl arR Tryz.func10 arA asd asb (λos started H enc _=>asv os started H enc)
end Go.Proofs.YtjagmhagphbfcaaGreatDoor
