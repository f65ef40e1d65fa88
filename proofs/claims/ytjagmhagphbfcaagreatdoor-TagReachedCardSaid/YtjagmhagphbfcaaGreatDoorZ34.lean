/-
  What is proved: the card of TagReached: a number is among the prices of a tag just if the house agrees when it is learnt, and then it is the only one, and all words of the house are those that some price leaves; for every house, tag and number the call returns true, on every schedule, and leaves what it was given as it was. Conditions: those of the row (the program's own table is laid as its text lays it).
-/
import Derived.Test.YtjagmhagphbfcaaGreatDoorZ33
set_option maxRecDepth 100000
set_option linter.all false
namespace Go.Proofs.YtjagmhagphbfcaaGreatDoor
open Go
theorem tagReached_holds:Rows.TagReachedCardSaid:=
 cA.Lf cA.amY (by kernel_rfl) tagReached_row_tie rfl ⟨rfl,rfl⟩ (by kernel_rfl)
  (λf fn hf vk=>by
   obtain rfl:f=12:=adw ((show Tryz.prog.funcNamed "nosale/nosalelaw03.TagReached" =some 12 by kernel_rfl).symm.trans hf)|>.symm;obtain rfl:fn=Tryz.f12:=(adw (Tryz.func12.symm.trans vk)).symm;exact⟨by kernel_rfl,λj t ht=>by
    rw[Tryz.params12] at ht;have hm:t∈ [25,5,44]:=by simpa using aew ht
    have gU:([25,5,44].all λu=> !Tryz.prog.wantsStandIn u)=true:=by kernel_rfl
    exact(show Tryz.prog.wantsStandIn t=false by simpa using acp.1 gU t hm)⟩)
  (by kernel_rfl)
end Go.Proofs.YtjagmhagphbfcaaGreatDoor
