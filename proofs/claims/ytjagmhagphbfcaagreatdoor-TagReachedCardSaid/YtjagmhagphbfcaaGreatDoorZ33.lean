/- Part 33 of a proof (made small by a program; blanks, names and remarks only). -/
import Derived.Test.YtjagmhagphbfcaaGreatDoorZ32
set_option maxRecDepth 100000
set_option linter.all false
namespace Go.Proofs.YtjagmhagphbfcaaGreatDoor.cA
open Go Go.Proofs Go.Conc Lo Dn Lw Go.ChangeShapes Go.WideShapes Go.ChangeAt Go.RowKit
theorem amV:Tryz.pinned.checked.prog.funcNamed Rows.tagReachedRow.func=some 12:=by kernel_rfl
set_option maxHeartbeats 10000000 in
theorem amP:joinedFacts Tryz.pinned.checked.prog 12 Tryz.f12 Rows.tagReachedSpec Rows.tagReachedRow=true:=by
 unfold joinedFacts;simp only[aaZ]
 repeat' refine And.intro ?_ ?_
 all_goals as_aux_lemma=>kernel_rfl
theorem amZ:Tryz.f12.isInstance Tryz.pinned.checked.prog Rows.tagReachedRow.origin Rows.tagReachedRow.targs:=afQ (by kernel_rfl)
theorem amX:Tryz.f12.isWrapper Tryz.pinned.checked.prog Rows.tagReachedRow.wrapper Rows.tagReachedRow.mainSum:=by unfold Func.isWrapper;first|(rw[aay (by decide+kernel)];kernel_rfl)|(rw[aat (by decide+kernel)];exact⟨rfl,rfl⟩)
theorem amY:Rows.TagReachedSaid:=
 OpenClaim.holds_of_wide_leaving 12 Tryz.f12 rfl rfl rfl rfl rfl rfl rfl ⟨rfl,rfl,rfl,rfl,rfl⟩ rfl rfl rfl rfl rfl amV Tryz.func12 amP amZ amX (λos started H enc _=>am3 os started H enc)
end Go.Proofs.YtjagmhagphbfcaaGreatDoor.cA
