/-
  What is proved: the card of TagClashes: the tags of Clash alone have no history, and without any one of them they have, and no other tags that have none are fewer, or as many and a list that stands before; for every house and every choice of other tags the call returns true, on every schedule, and leaves what it was given as it was. Conditions: those of the row (the program's own table is laid as its text lays it).
-/
import Derived.Test.YtjagmhagphbfcaaGreatDoorY33
set_option maxRecDepth 100000
set_option linter.all false
namespace Go.Proofs.YtjagmhagphbfcaaGreatDoor
open Go
theorem tagClashes_holds:Rows.TagClashesCardSaid:=
 cA.Lf cA.alB (by kernel_rfl) tagClashes_row_tie rfl ⟨rfl,rfl⟩ (by kernel_rfl)
  (λf fn hf vk=>by
   obtain rfl:f=6:=adw ((show Tryz.prog.funcNamed "nosale/nosalelaw03.TagClashes" =some 6 by kernel_rfl).symm.trans hf)|>.symm;obtain rfl:fn=Tryz.f6:=(adw (Tryz.func6.symm.trans vk)).symm;exact⟨by kernel_rfl,λj t ht=>by
    rw[Tryz.params6] at ht;have hm:t∈ [25,5]:=by simpa using aew ht
    have gU:([25,5].all λu=> !Tryz.prog.wantsStandIn u)=true:=by kernel_rfl
    exact(show Tryz.prog.wantsStandIn t=false by simpa using acp.1 gU t hm)⟩)
  (by kernel_rfl)
end Go.Proofs.YtjagmhagphbfcaaGreatDoor
