/- Part 33 of a proof (made small by a program; blanks, names and remarks only). -/
import Derived.Test.YtjagmhagphbfcaaGreatDoorX32
set_option maxRecDepth 100000
set_option linter.all false
namespace Go.Proofs.YtjagmhagphbfcaaGreatDoor.cA
open Go Go.Proofs Go.Conc Lo Dn Lw Go.ChangeShapes Go.WideShapes Go.ChangeAt Go.RowKit
theorem akw:Tryz.pinned.checked.prog.funcNamed Rows.tagMeantRow.func=some 5:=by kernel_rfl
set_option maxHeartbeats 10000000 in
theorem akv:joinedFacts Tryz.pinned.checked.prog 5 Tryz.f5 Rows.tagMeantSpec Rows.tagMeantRow=true:=by
 unfold joinedFacts;simp only[aaZ]
 repeat' refine And.intro ?_ ?_
 all_goals as_aux_lemma=>kernel_rfl
theorem akB:Tryz.f5.isInstance Tryz.pinned.checked.prog Rows.tagMeantRow.origin Rows.tagMeantRow.targs:=afQ (by kernel_rfl)
theorem akz:Tryz.f5.isWrapper Tryz.pinned.checked.prog Rows.tagMeantRow.wrapper Rows.tagMeantRow.mainSum:=by unfold Func.isWrapper;first|(rw[aay (by decide+kernel)];kernel_rfl)|(rw[aat (by decide+kernel)];exact⟨rfl,rfl⟩)
theorem akA:Rows.TagMeantSaid:=
 OpenClaim.holds_of_wide_leaving 5 Tryz.f5 rfl rfl rfl rfl rfl rfl rfl ⟨rfl,rfl,rfl,rfl,rfl⟩ rfl rfl rfl rfl rfl akw Tryz.func5 akv akB akz (λos started H enc _=>akH os started H enc)
end Go.Proofs.YtjagmhagphbfcaaGreatDoor.cA
