/- Lemmas, part 33. -/
import Derived.Test.YtjagmhagphbfcaaGreatDoorT32
set_option maxRecDepth 100000
set_option linter.all false
namespace Go.Proofs.YtjagmhagphbfcaaGreatDoor
open Go Go.Proofs Go.Conc Go.ChangeShapes Go.WideShapes Go.ChangeAt Go.RowKit
theorem art:Tryz.pinned.checked.prog.funcNamed Rows.tagLearntRow.func=some 13:=by kernel_rfl
set_option maxHeartbeats 10000000 in
theorem ari:joinedFacts Tryz.pinned.checked.prog 13 Tryz.f13 Rows.tagLearntSpec Rows.tagLearntRow=true:=by
 unfold joinedFacts;simp only[aaZ]
 repeat' refine And.intro ?_ ?_
 all_goals as_aux_lemma=>kernel_rfl
theorem arL:Tryz.f13.isInstance Tryz.pinned.checked.prog Rows.tagLearntRow.origin Rows.tagLearntRow.targs:=afQ (by kernel_rfl)
def arJ:Tryz.f13.isWrapper Tryz.pinned.checked.prog Rows.tagLearntRow.wrapper Rows.tagLearntRow.mainSum:=by unfold Func.isWrapper;first|(rw[aay (by decide+kernel)];kernel_rfl)|(rw[aat (by decide+kernel)];exact⟨rfl,rfl⟩)
def arK:Rows.TagLearntSaid:=
 OpenClaim.holds_of_wide_leaving 13 Tryz.f13 rfl rfl rfl rfl rfl rfl rfl ⟨rfl,rfl,rfl,rfl,rfl⟩ rfl rfl rfl rfl rfl art Tryz.func13 ari arL arJ (λos started H enc _=>ar2 os started H enc)
end Go.Proofs.YtjagmhagphbfcaaGreatDoor
