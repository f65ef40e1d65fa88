/- Part 33 of a proof (made small by a program; blanks, names and remarks only). -/
import Derived.Test.YtjagmhagphbfcaaGreatDoorY32
set_option maxRecDepth 100000
set_option linter.all false
namespace Go.Proofs.YtjagmhagphbfcaaGreatDoor.cA
open Go Go.Proofs Go.Conc Lo Dn Lw Go.ChangeShapes Go.WideShapes Go.ChangeAt Go.RowKit
theorem aly:Tryz.pinned.checked.prog.funcNamed Rows.tagClashesRow.func=some 6:=by kernel_rfl
set_option maxHeartbeats 10000000 in
theorem alk:joinedFacts Tryz.pinned.checked.prog 6 Tryz.f6 Rows.tagClashesSpec Rows.tagClashesRow=true:=by
 unfold joinedFacts;simp only[aaZ]
 repeat' refine And.intro ?_ ?_
 all_goals as_aux_lemma=>kernel_rfl
theorem alC:Tryz.f6.isInstance Tryz.pinned.checked.prog Rows.tagClashesRow.origin Rows.tagClashesRow.targs:=afQ (by kernel_rfl)
theorem alA:Tryz.f6.isWrapper Tryz.pinned.checked.prog Rows.tagClashesRow.wrapper Rows.tagClashesRow.mainSum:=by unfold Func.isWrapper;first|(rw[aay (by decide+kernel)];kernel_rfl)|(rw[aat (by decide+kernel)];exact⟨rfl,rfl⟩)
theorem alB:Rows.TagClashesSaid:=
 OpenClaim.holds_of_wide_leaving 6 Tryz.f6 rfl rfl rfl rfl rfl rfl rfl ⟨rfl,rfl,rfl,rfl,rfl⟩ rfl rfl rfl rfl rfl aly Tryz.func6 alk alC alA (λos started H enc _=>alH os started H enc)
end Go.Proofs.YtjagmhagphbfcaaGreatDoor.cA
