/- Lemmas, part 33. -/
import Derived.Test.YtjagmhagphbfcaaGreatDoorR32
set_option maxRecDepth 100000
set_option linter.all false
namespace Go.Proofs.YtjagmhagphbfcaaGreatDoor
open Go Go.Proofs Go.Conc Go.ChangeShapes Go.WideShapes Go.ChangeAt Go.RowKit
theorem ars:Tryz.pinned.checked.prog.funcNamed Rows.tagAnyOrderRow.func=some 9:=by kernel_rfl
set_option maxHeartbeats 10000000 in
theorem arh:joinedFacts Tryz.pinned.checked.prog 9 Tryz.f9 Rows.tagAnyOrderSpec Rows.tagAnyOrderRow=true:=by
 unfold joinedFacts;simp only[aaZ]
 repeat' refine And.intro ?_ ?_
 all_goals as_aux_lemma=>kernel_rfl
theorem arw:Tryz.f9.isInstance Tryz.pinned.checked.prog Rows.tagAnyOrderRow.origin Rows.tagAnyOrderRow.targs:=afQ (by kernel_rfl)
theorem aru:Tryz.f9.isWrapper Tryz.pinned.checked.prog Rows.tagAnyOrderRow.wrapper Rows.tagAnyOrderRow.mainSum:=by unfold Func.isWrapper;first|(rw[aay (by decide+kernel)];kernel_rfl)|(rw[aat (by decide+kernel)];exact⟨rfl,rfl⟩)
theorem arv:Rows.TagAnyOrderSaid:=
 OpenClaim.holds_of_wide_leaving 9 Tryz.f9 rfl rfl rfl rfl rfl rfl rfl ⟨rfl,rfl,rfl,rfl,rfl⟩ rfl rfl rfl rfl rfl ars Tryz.func9 arh arw aru (λos started H enc _=>arE os started H enc)
end Go.Proofs.YtjagmhagphbfcaaGreatDoor
