/- Part 33 of a proof (made small by a program; blanks, names and remarks only). -/
import Derived.Test.YtjagmhagphbfcaaGreatDoorW32
set_option maxRecDepth 100000
set_option linter.all false
namespace Go.Proofs.YtjagmhagphbfcaaGreatDoor.cA
open Go Go.Proofs Go.Conc Lo Dn Lw Go.ChangeShapes Go.WideShapes Go.ChangeAt Go.RowKit
theorem aks:Tryz.pinned.checked.prog.funcNamed Rows.tagRoundRow.func=some 4:=by kernel_rfl
set_option maxHeartbeats 10000000 in
theorem akp:joinedFacts Tryz.pinned.checked.prog 4 Tryz.f4 Rows.tagRoundSpec Rows.tagRoundRow=true:=by
 unfold joinedFacts;simp only[aaZ]
 repeat' refine And.intro ?_ ?_
 all_goals as_aux_lemma=>kernel_rfl
theorem akw:Tryz.f4.isInstance Tryz.pinned.checked.prog Rows.tagRoundRow.origin Rows.tagRoundRow.targs:=afQ (by kernel_rfl)
theorem akv:Tryz.f4.isWrapper Tryz.pinned.checked.prog Rows.tagRoundRow.wrapper Rows.tagRoundRow.mainSum:=by unfold Func.isWrapper;first|(rw[aay (by decide+kernel)];kernel_rfl)|(rw[aat (by decide+kernel)];exact⟨rfl,rfl⟩)
theorem aj5:Rows.TagRoundSaid:=
 OpenClaim.holds_of_wide_leaving 4 Tryz.f4 rfl rfl rfl rfl rfl rfl rfl ⟨rfl,rfl,rfl,rfl,rfl⟩ rfl rfl rfl rfl rfl aks Tryz.func4 akp akw akv (λos started H enc _=>aj9 os started H enc)
end Go.Proofs.YtjagmhagphbfcaaGreatDoor.cA
