/-
  What is proved: the card of TagLearnt: what is learnt of a price never adds a word, a letter or a number, keeps what was sure, and keeps a price plain; for every house with a tag, any two tags, any span, digit, price and number of letters the call returns true, on every schedule, and leaves what it was given as it was. Conditions: those of the row (the program's own table is laid as its text lays it).
-/
import Derived.Test.YtjagmhagphbfcaaGreatDoorT33
set_option maxRecDepth 100000
set_option linter.all false
namespace Go.Proofs.YtjagmhagphbfcaaGreatDoor
open Go
theorem tagLearnt_holds:Rows.TagLearntCardSaid:=
 Lf arK (by kernel_rfl) tagLearnt_row_tie rfl ⟨rfl,rfl⟩ (by kernel_rfl)
  (λf fn hf vk=>by
   obtain rfl:f=13:=adw ((show Tryz.prog.funcNamed "nosale/nosalelaw03.TagLearnt" =some 13 by kernel_rfl).symm.trans hf)|>.symm;obtain rfl:fn=Tryz.f13:=(adw (Tryz.func13.symm.trans vk)).symm;exact⟨by kernel_rfl,λj t ht=>by
    rw[Tryz.params13] at ht;have hm:t∈ [25,5,5,49,5,44,5]:=by simpa using aew ht
    have gU:([25,5,5,49,5,44,5].all λu=> !Tryz.prog.wantsStandIn u)=true:=by kernel_rfl
    exact(show Tryz.prog.wantsStandIn t=false by simpa using acp.1 gU t hm)⟩)
  (by kernel_rfl)
end Go.Proofs.YtjagmhagphbfcaaGreatDoor
