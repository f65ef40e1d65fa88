/-
  What is proved: the card of TagWords: Words, Letters, Digits and Settled agree with the specification for every house, digit and string the call returns true, on every schedule, and leaves what it was given as it was. Conditions: those of the row (the program's own table is laid as its text lays it).
-/
import Derived.Test.YtjagmhagphbfcaaGreatDoorQ33
set_option maxRecDepth 100000
set_option linter.all false
namespace Go.Proofs.YtjagmhagphbfcaaGreatDoor
open Go
theorem tagWords_holds:Rows.TagWordsCardSaid:=
 Lf asc (by kernel_rfl) tagWords_row_tie rfl ⟨rfl,rfl⟩ (by kernel_rfl)
  (λf fn hf vk=>by
   obtain rfl:f=10:=adw ((show Tryz.prog.funcNamed "nosale/nosalelaw03.TagWords" =some 10 by kernel_rfl).symm.trans hf)|>.symm;obtain rfl:fn=Tryz.f10:=(adw (Tryz.func10.symm.trans vk)).symm;exact⟨by kernel_rfl,λj t ht=>by
    rw[Tryz.params10] at ht;have hm:t∈ [25,3,9]:=by simpa using aew ht
    have gU:([25,3,9].all λu=> !Tryz.prog.wantsStandIn u)=true:=by kernel_rfl
    exact(show Tryz.prog.wantsStandIn t=false by simpa using acp.1 gU t hm)⟩)
  (by kernel_rfl)
end Go.Proofs.YtjagmhagphbfcaaGreatDoor
