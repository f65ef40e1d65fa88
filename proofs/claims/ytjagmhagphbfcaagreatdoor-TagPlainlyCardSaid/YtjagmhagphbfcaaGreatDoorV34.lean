/- Part 34 of a proof (made small by a program; blanks, names and remarks only). -/
import Derived.Test.YtjagmhagphbfcaaGreatDoorV33
set_option maxRecDepth 100000
set_option linter.all false
namespace Go.Proofs.YtjagmhagphbfcaaGreatDoor.cA
open Go Go.Proofs Go.Conc Lo Dn Lw Go.ChangeShapes Go.WideShapes Go.ChangeAt Go.RowKit
theorem BPn:Tryz.pinned.checked.prog.funcNamed Rows.tagPlainlyRow.func=some 8:=by kernel_rfl
set_option maxHeartbeats 10000000 in
theorem BPj:joinedFacts Tryz.pinned.checked.prog 8 Tryz.f8 Rows.tagPlainlySpec Rows.tagPlainlyRow=true:=by
 unfold joinedFacts
 simp only[Bool.and_eq_true]
 repeat' refine And.intro ?_ ?_
 all_goals as_aux_lemma=>kernel_rfl
theorem BPi:Tryz.f8.isInstance Tryz.pinned.checked.prog Rows.tagPlainlyRow.origin Rows.tagPlainlyRow.targs:=afQ (by kernel_rfl)
theorem BPw:Tryz.f8.isWrapper Tryz.pinned.checked.prog Rows.tagPlainlyRow.wrapper Rows.tagPlainlyRow.mainSum:=by unfold Func.isWrapper;first|(rw[aay (by decide+kernel)];kernel_rfl)|(rw[aat (by decide+kernel)];exact⟨rfl,rfl⟩)
theorem BP:Rows.TagPlainlySaid:=
 OpenClaim.holds_of_wide_leaving 8 Tryz.f8 rfl rfl rfl rfl rfl rfl rfl ⟨rfl,rfl,rfl,rfl,rfl⟩ rfl rfl rfl rfl rfl BPn Tryz.func8 BPj BPi BPw (λos started H enc _=>D3 os started H enc)
end Go.Proofs.YtjagmhagphbfcaaGreatDoor.cA
