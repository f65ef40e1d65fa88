/-
  What is proved: the card of TagMeant: what is read on a new tag that can cost anything means just the prices that it has once it hangs, and it can hang just if it means something; for every house and string the call returns true, on every schedule, and leaves what it was given as it was. Conditions: those of the row (the program's own table is laid as its text lays it).
-/
import Derived.Test.YtjagmhagphbfcaaGreatDoorX33
set_option maxRecDepth 100000
set_option linter.all false
namespace Go.Proofs.YtjagmhagphbfcaaGreatDoor
open Go
theorem tagMeant_holds:Rows.TagMeantCardSaid:=
 cA.Lf cA.akA (by kernel_rfl) tagMeant_row_tie rfl ⟨rfl,rfl⟩ (by kernel_rfl)
  (λf fn hf vk=>by
   obtain rfl:f=5:=adw ((show Tryz.prog.funcNamed "nosale/nosalelaw03.TagMeant" =some 5 by kernel_rfl).symm.trans hf)|>.symm;obtain rfl:fn=Tryz.f5:=(adw (Tryz.func5.symm.trans vk)).symm;exact⟨by kernel_rfl,λj t ht=>by
    rw[Tryz.params5] at ht;have hm:t∈ [25,9]:=by simpa using aew ht
    have gU:([25,9].all λu=> !Tryz.prog.wantsStandIn u)=true:=by kernel_rfl
    exact(show Tryz.prog.wantsStandIn t=false by simpa using acp.1 gU t hm)⟩)
  (by kernel_rfl)
end Go.Proofs.YtjagmhagphbfcaaGreatDoor
