/-
  What is proved: the card of TagAsked: Ask answers with the first of the tags whose price, if learnt, is sure to leave the fewest houses, or with none where no price can leave fewer; for every house and number the call returns true, on every schedule, and leaves what it was given as it was. Conditions: those of the row (the program's own table is laid as its text lays it).
-/
import Derived.Test.YtjagmhagphbfcaaGreatDoorO33
set_option maxRecDepth 100000
set_option linter.all false
namespace Go.Proofs.YtjagmhagphbfcaaGreatDoor
open Go
theorem tagAsked_holds:Rows.TagAskedCardSaid:=
 Lf aru (by kernel_rfl) tagAsked_row_tie rfl ⟨rfl,rfl⟩ (by kernel_rfl)
  (λf fn hf vk=>by
   obtain rfl:f=7:=adw ((show Tryz.prog.funcNamed "nosale/nosalelaw03.TagAsked" =some 7 by kernel_rfl).symm.trans hf)|>.symm;obtain rfl:fn=Tryz.f7:=(adw (Tryz.func7.symm.trans vk)).symm;exact⟨by kernel_rfl,λj t ht=>by
    rw[Tryz.params7] at ht;have hm:t∈ [25,5]:=by simpa using aew ht
    have gU:([25,5].all λu=> !Tryz.prog.wantsStandIn u)=true:=by kernel_rfl
    exact(show Tryz.prog.wantsStandIn t=false by simpa using acp.1 gU t hm)⟩)
  (by kernel_rfl)
end Go.Proofs.YtjagmhagphbfcaaGreatDoor
