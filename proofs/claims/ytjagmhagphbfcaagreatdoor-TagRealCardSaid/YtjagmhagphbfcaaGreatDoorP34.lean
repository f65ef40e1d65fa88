/-
  What is proved: the card of TagReal: whatever the word of the house is, and whatever really stands on the tags, if what is read is that, or looks like it, and the prices are right, nothing clashes, each letter stands for a digit as is said, each number is among Prices, each tag is misread as is said, and a house that is settled has that word; for every house, every choice of a word and of numbers, every tag and digit the call returns true, on every schedule, and leaves what it was given as it was. Conditions: those of the row (the program's own table is laid as its text lays it).
-/
import Derived.Test.YtjagmhagphbfcaaGreatDoorP33
set_option maxRecDepth 100000
set_option linter.all false
namespace Go.Proofs.YtjagmhagphbfcaaGreatDoor
open Go
theorem tagReal_holds:Rows.TagRealCardSaid:=
 Lf asQ (by kernel_rfl) tagReal_row_tie rfl ⟨rfl,rfl⟩ (by kernel_rfl)
  (λf fn hf vk=>by
   obtain rfl:f=11:=adw ((show Tryz.prog.funcNamed "nosale/nosalelaw03.TagReal" =some 11 by kernel_rfl).symm.trans hf)|>.symm;obtain rfl:fn=Tryz.f11:=(adw (Tryz.func11.symm.trans vk)).symm;exact⟨by kernel_rfl,λj t ht=>by
    rw[Tryz.params11] at ht;have hm:t∈ [25,43,43,5,5]:=by simpa using aew ht
    have gU:([25,43,43,5,5].all λu=> !Tryz.prog.wantsStandIn u)=true:=by kernel_rfl
    exact(show Tryz.prog.wantsStandIn t=false by simpa using acp.1 gU t hm)⟩)
  (by kernel_rfl)
end Go.Proofs.YtjagmhagphbfcaaGreatDoor
