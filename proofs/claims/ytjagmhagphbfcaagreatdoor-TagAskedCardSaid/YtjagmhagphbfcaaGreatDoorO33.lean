/- Lemmas, part 33. -/
import Derived.Test.YtjagmhagphbfcaaGreatDoorO32
set_option maxRecDepth 100000
set_option linter.all false
namespace Go.Proofs.YtjagmhagphbfcaaGreatDoor
open Go Go.Proofs Go.Conc Go.ChangeShapes Go.WideShapes Go.ChangeAt Go.RowKit
theorem arb:Tryz.pinned.checked.prog.funcNamed Rows.tagAskedRow.func=some 7:=by kernel_rfl
set_option maxHeartbeats 10000000 in
theorem aq4:joinedFacts Tryz.pinned.checked.prog 7 Tryz.f7 Rows.tagAskedSpec Rows.tagAskedRow=true:=by
 unfold joinedFacts;simp only[aaZ]
 repeat' refine And.intro ?_ ?_
 all_goals as_aux_lemma=>kernel_rfl
theorem arx:Tryz.f7.isInstance Tryz.pinned.checked.prog Rows.tagAskedRow.origin Rows.tagAskedRow.targs:=afQ (by kernel_rfl)
theorem ars:Tryz.f7.isWrapper Tryz.pinned.checked.prog Rows.tagAskedRow.wrapper Rows.tagAskedRow.mainSum:=by unfold Func.isWrapper;first|(rw[aay (by decide+kernel)];kernel_rfl)|(rw[aat (by decide+kernel)];exact⟨rfl,rfl⟩)
theorem aru:Rows.TagAskedSaid:=
 OpenClaim.holds_of_wide_leaving 7 Tryz.f7 rfl rfl rfl rfl rfl rfl rfl ⟨rfl,rfl,rfl,rfl,rfl⟩ rfl rfl rfl rfl rfl arb Tryz.func7 aq4 arx ars (λos started H enc _=>arY os started H enc)
end Go.Proofs.YtjagmhagphbfcaaGreatDoor
