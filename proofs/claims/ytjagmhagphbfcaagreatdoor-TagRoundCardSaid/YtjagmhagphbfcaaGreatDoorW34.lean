/-
  What is proved: the card of TagRound: a price that is written by a house whose word is known, in which no letters look alike, is read as itself, and no other price is written so with as many letters; for every house, choice of a word, two prices and number of letters the call returns true, on every schedule, and leaves what it was given as it was. Conditions: those of the row (the program's own table is laid as its text lays it).
-/
import Derived.Test.YtjagmhagphbfcaaGreatDoorW33
set_option maxRecDepth 100000
set_option linter.all false
namespace Go.Proofs.YtjagmhagphbfcaaGreatDoor
open Go
theorem tagRound_holds:Rows.TagRoundCardSaid:=
 cA.Lf cA.aj5 (by kernel_rfl) tagRound_row_tie rfl ⟨rfl,rfl⟩ (by kernel_rfl)
  (λf fn hf vk=>by
   obtain rfl:f=4:=adw ((show Tryz.prog.funcNamed "nosale/nosalelaw03.TagRound" =some 4 by kernel_rfl).symm.trans hf)|>.symm;obtain rfl:fn=Tryz.f4:=(adw (Tryz.func4.symm.trans vk)).symm;exact⟨by kernel_rfl,λj t ht=>by
    rw[Tryz.params4] at ht;have hm:t∈ [25,43,44,44,5]:=by simpa using aew ht
    have gU:([25,43,44,44,5].all λu=> !Tryz.prog.wantsStandIn u)=true:=by kernel_rfl
    exact(show Tryz.prog.wantsStandIn t=false by simpa using acp.1 gU t hm)⟩)
  (by kernel_rfl)
end Go.Proofs.YtjagmhagphbfcaaGreatDoor
