/- Part 32 of a proof (made small by a program; blanks, names and remarks only). -/
import Derived.Test.YtjagmhagphbfcaaGreatDoorU31
set_option maxRecDepth 100000
set_option linter.all false
namespace Go.Proofs.YtjagmhagphbfcaaGreatDoor
open Go Go.Proofs Go.Conc Go.ChangeShapes Go.WideShapes Go.ChangeAt Go.RowKit
theorem ao5:Tryz.pinned.checked.prog.funcNamed Rows.tagPricesRow.func=some 3:=by kernel_rfl
set_option maxHeartbeats 10000000 in
theorem aoY:joinedFacts Tryz.pinned.checked.prog 3 Tryz.f3 Rows.tagPricesSpec Rows.tagPricesRow=true:=by
 unfold joinedFacts;simp only[aaZ]
 repeat' refine And.intro ?_ ?_
 all_goals as_aux_lemma=>kernel_rfl
theorem apv:Tryz.f3.isInstance Tryz.pinned.checked.prog Rows.tagPricesRow.origin Rows.tagPricesRow.targs:=afQ (by kernel_rfl)
theorem aps:Tryz.f3.isWrapper Tryz.pinned.checked.prog Rows.tagPricesRow.wrapper Rows.tagPricesRow.mainSum:=by unfold Func.isWrapper;first|(rw[aay (by decide+kernel)];kernel_rfl)|(rw[aat (by decide+kernel)];exact⟨rfl,rfl⟩)
theorem apu:Rows.TagPricesSaid:=
 OpenClaim.holds_of_wide_leaving 3 Tryz.f3 rfl rfl rfl rfl rfl rfl rfl ⟨rfl,rfl,rfl,rfl,rfl⟩ rfl rfl rfl rfl rfl ao5 Tryz.func3 aoY apv aps (λos started H enc _=>apB os started H enc)
end Go.Proofs.YtjagmhagphbfcaaGreatDoor
