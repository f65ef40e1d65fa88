/-
  What is proved: the card of TagAnyOrder: tags that are listed the other way round, pairs and spare letters likewise, change no more than indexes; for every house, tag and digit the call returns true, on every schedule, and leaves what it was given as it was. Conditions: those of the row (the program's own table is laid as its text lays it).
-/
import Derived.Test.YtjagmhagphbfcaaGreatDoorR33
set_option maxRecDepth 100000
set_option linter.all false
namespace Go.Proofs.YtjagmhagphbfcaaGreatDoor
open Go
theorem tagAnyOrder_holds:Rows.TagAnyOrderCardSaid:=
 Lf arv (by kernel_rfl) tagAnyOrder_row_tie rfl ⟨rfl,rfl⟩ (by kernel_rfl)
  (λf fn hf vk=>by
   obtain rfl:f=9:=adw ((show Tryz.prog.funcNamed "nosale/nosalelaw03.TagAnyOrder" =some 9 by kernel_rfl).symm.trans hf)|>.symm;obtain rfl:fn=Tryz.f9:=(adw (Tryz.func9.symm.trans vk)).symm;exact⟨by kernel_rfl,λj t ht=>by
    rw[Tryz.params9] at ht;have hm:t∈ [25,5,5]:=by simpa using aew ht
    have gU:([25,5,5].all λu=> !Tryz.prog.wantsStandIn u)=true:=by kernel_rfl
    exact(show Tryz.prog.wantsStandIn t=false by simpa using acp.1 gU t hm)⟩)
  (by kernel_rfl)
end Go.Proofs.YtjagmhagphbfcaaGreatDoor
