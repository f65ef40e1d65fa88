/-
  What is proved: the card of TagPlainly: a price that is plain is written, and read, as itself, by each word that is possible then; a house without letters that look alike and with one word has plain prices alone; for every house, price and number of letters the call returns true, on every schedule, and leaves what it was given as it was. Conditions: those of the row (the program's own table is laid as its text lays it).
-/
import Derived.Test.YtjagmhagphbfcaaGreatDoorV34
set_option maxRecDepth 100000
set_option linter.all false
namespace Go.Proofs.YtjagmhagphbfcaaGreatDoor
open Go
theorem tagPlainly_holds:Rows.TagPlainlyCardSaid:=
 cA.Lf cA.BP (by kernel_rfl) tagPlainly_row_tie rfl ⟨rfl,rfl⟩ (by kernel_rfl)
  (λf fn hf vk=>by
   obtain rfl:f=8:=adw ((show Tryz.prog.funcNamed "nosale/nosalelaw03.TagPlainly" =some 8 by kernel_rfl).symm.trans hf)|>.symm;obtain rfl:fn=Tryz.f8:=(adw (Tryz.func8.symm.trans vk)).symm;exact⟨by kernel_rfl,λj t ht=>by
    rw[Tryz.params8] at ht;have hm:t∈ [25,44,5]:=by simpa using aew ht
    have gU:([25,44,5].all λu=> !Tryz.prog.wantsStandIn u)=true:=by kernel_rfl
    exact(show Tryz.prog.wantsStandIn t=false by simpa using acp.1 gU t hm)⟩)
  (by kernel_rfl)
end Go.Proofs.YtjagmhagphbfcaaGreatDoor
