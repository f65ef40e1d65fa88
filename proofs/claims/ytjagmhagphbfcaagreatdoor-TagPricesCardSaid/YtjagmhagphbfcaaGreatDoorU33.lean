/-
  What is proved: the card of TagPrices: Prices, Means, Writes, Misread and Plain agree with the specification for every house, tag, string, price and number of letters the call returns true, on every schedule, and leaves what it was given as it was. Conditions: those of the row (the program's own table is laid as its text lays it).
-/
import Derived.Test.YtjagmhagphbfcaaGreatDoorU32
set_option maxRecDepth 100000
set_option linter.all false
namespace Go.Proofs.YtjagmhagphbfcaaGreatDoor
open Go
theorem tagPrices_holds:Rows.TagPricesCardSaid:=
 Lf apu (by kernel_rfl) tagPrices_row_tie rfl ⟨rfl,rfl⟩ (by kernel_rfl)
  (λf fn hf vk=>by
   obtain rfl:f=3:=adw ((show Tryz.prog.funcNamed "nosale/nosalelaw03.TagPrices" =some 3 by kernel_rfl).symm.trans hf)|>.symm;obtain rfl:fn=Tryz.f3:=(adw (Tryz.func3.symm.trans vk)).symm;exact⟨by kernel_rfl,λj t ht=>by
    rw[Tryz.params3] at ht;have hm:t∈ [25,3,9,3,3]:=by simpa using aew ht
    have gU:([25,3,9,3,3].all λu=> !Tryz.prog.wantsStandIn u)=true:=by kernel_rfl
    exact(show Tryz.prog.wantsStandIn t=false by simpa using acp.1 gU t hm)⟩)
  (by kernel_rfl)
end Go.Proofs.YtjagmhagphbfcaaGreatDoor
