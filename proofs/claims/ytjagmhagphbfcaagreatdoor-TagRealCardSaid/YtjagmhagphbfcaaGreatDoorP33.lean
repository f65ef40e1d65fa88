/- Lemmas, part 33. -/
import Derived.Test.YtjagmhagphbfcaaGreatDoorP32
set_option maxRecDepth 100000
set_option linter.all false
namespace Go.Proofs.YtjagmhagphbfcaaGreatDoor
open Go Go.Proofs Go.Conc Go.ChangeShapes Go.WideShapes Go.ChangeAt Go.RowKit
theorem asw:Tryz.pinned.checked.prog.funcNamed Rows.tagRealRow.func=some 11:=by kernel_rfl
set_option maxHeartbeats 10000000 in
theorem ar9:joinedFacts Tryz.pinned.checked.prog 11 Tryz.f11 Rows.tagRealSpec Rows.tagRealRow=true:=by
 unfold joinedFacts;simp only[aaZ]
 repeat' refine And.intro ?_ ?_
 all_goals as_aux_lemma=>kernel_rfl
theorem asR:Tryz.f11.isInstance Tryz.pinned.checked.prog Rows.tagRealRow.origin Rows.tagRealRow.targs:=afQ (by kernel_rfl)
theorem asO:Tryz.f11.isWrapper Tryz.pinned.checked.prog Rows.tagRealRow.wrapper Rows.tagRealRow.mainSum:=by unfold Func.isWrapper;first|(rw[aay (by decide+kernel)];kernel_rfl)|(rw[aat (by decide+kernel)];exact⟨rfl,rfl⟩)
theorem asQ:Rows.TagRealSaid:=
 OpenClaim.holds_of_wide_leaving 11 Tryz.f11 rfl rfl rfl rfl rfl rfl rfl ⟨rfl,rfl,rfl,rfl,rfl⟩ rfl rfl rfl rfl rfl asw Tryz.func11 ar9 asR asO (λos started H enc _=>atg os started H enc)
end Go.Proofs.YtjagmhagphbfcaaGreatDoor
