/- Lemmas, part 4. -/
import Derived.Conc.Know
import Derived.Test.YtjagmhagphbfcaaGreatDoorO03
set_option maxRecDepth 100000
set_option linter.all false
namespace Go.Proofs.YtjagmhagphbfcaaGreatDoor
open Go Go.Conc
def ji:Loc->Option Nat
 | .cell a=>some a.block
 | .obj r=>some r
 |_=>none
def cm(Sh:Nat->Prop)(ρ:Ren)(O:Nat->Option Nat)(hs:Nat)(g:Nat):Prop:=
 ∀b c d,ρ b=some (c,d)->c<hs/\(¬Sh b->O c=some g)/\(Sh b->O c=none)
theorem ez{g:Nat}{fn:FuncId}{pos:String}{es:Array Event}{op:MemOp}(h:op∈MemOp.ofEvents g fn pos es):∃e∈es,op= { g,fn,pos,act:=.ofEvent e } :=by
 unfold MemOp.ofEvents at h
 grind
end Go.Proofs.YtjagmhagphbfcaaGreatDoor
