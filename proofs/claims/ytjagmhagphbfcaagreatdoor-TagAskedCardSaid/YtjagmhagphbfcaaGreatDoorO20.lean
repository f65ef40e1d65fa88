/- Lemmas, part 20. -/
import Derived.Shelf.Lays
import Derived.Shelf.Lays2
import Derived.Shelf.Sort.Plain
import Derived.Shelf.Slices.CompactI
import Derived.Shelf.Slices.CompactS
import Derived.Test.YtjagmhagphbfcaaGreatDoorO19
set_option maxRecDepth 100000
set_option linter.all false
namespace Go.Proofs.YtjagmhagphbfcaaGreatDoor
open Go Go.Proofs Go.Shelf
theorem BT{P:Program}[l:cL P]:P.follows .mixedOrders=true:=(Ek (P:=P) .mixedOrders).trans rfl
def U8:Go.Shelf.Ren:=⟨λx=>match x with|189=>131|125=>163|257=>162|128=>192|129=>193|294=>183|295=>184|296=>185|297=>186|298=>187|299=>188|216=>189|300=>190|301=>191|328=>211|329=>212|330=>213|331=>214|332=>215|215=>175|343=>231|n=>n,λx=>match x with|28=>28|3=>3|46=>189|0=>0|51=>214|53=>216|4=>4|183=>207|182=>206|131=>67|5=>5|9=>9|218=>230|222=>234|228=>245|229=>246|n=>n,λn=>n⟩
theorem Nq{P:Program}[l:cL P]:Lays.n189 P U8:=by
 constructor <;>first
  |exact BT
  |exact lf (by kernel_rfl) (by decide) (by decide)
  |exact(aX _).trans (by kernel_rfl)
  |exact λw=>(eD _ w).trans rfl
  |exact λw=>(cy _ w).trans rfl
  |exact λw=>(cx _ w).trans rfl
  |exact(congrArg (Option.map λi:TypeInfo=>(i.zero,i.size,i.bytes)) (pG _)).trans rfl
def U7:Go.Shelf.Ren:=⟨λx=>match x with|190=>172|125=>163|258=>195|128=>192|129=>193|302=>216|303=>217|304=>218|305=>219|306=>220|307=>221|308=>222|309=>223|310=>224|333=>232|329=>212|330=>213|334=>233|335=>234|336=>235|344=>237|n=>n,λx=>match x with|31=>22|9=>9|3=>3|46=>189|0=>0|51=>214|53=>216|4=>4|183=>207|182=>206|131=>67|5=>5|218=>230|222=>234|228=>245|229=>246|n=>n,λn=>n⟩
theorem VI{P:Program}[l:cL P]:Lays.n190 P U7:=by
 constructor <;>first
  |exact BT
  |exact lf (by kernel_rfl) (by decide) (by decide)
  |exact(aX _).trans (by kernel_rfl)
  |exact λw=>(eD _ w).trans rfl
  |exact λw=>(cy _ w).trans rfl
  |exact λw=>(cx _ w).trans rfl
  |exact(congrArg (Option.map λi:TypeInfo=>(i.zero,i.size,i.bytes)) (pG _)).trans rfl
def U6:Go.Shelf.Ren:=⟨λx=>match x with|194=>173|n=>n,λx=>match x with|31=>22|9=>9|3=>3|4=>4|0=>0|n=>n,λn=>n⟩
theorem Np{P:Program}[l:cL P]:Lays.n194 P U6:=by
 constructor <;>first
  |exact BT
  |exact lf (by kernel_rfl) (by decide) (by decide)
  |exact(aX _).trans (by kernel_rfl)
  |exact λw=>(eD _ w).trans rfl
  |exact λw=>(cy _ w).trans rfl
  |exact λw=>(cx _ w).trans rfl
  |exact(congrArg (Option.map λi:TypeInfo=>(i.zero,i.size,i.bytes)) (pG _)).trans rfl
def Tw:Go.Shelf.Ren:=⟨λx=>match x with|20=>132|n=>n,λx=>match x with|22=>28|3=>3|4=>4|0=>0|n=>n,λn=>n⟩
theorem TD{P:Program}[l:cL P]:Lays2.n20 P Tw:=by
 constructor <;>first
  |exact BT
  |exact lf (by kernel_rfl) (by decide) (by decide)
  |exact(aX _).trans (by kernel_rfl)
  |exact λw=>(eD _ w).trans rfl
  |exact λw=>(cy _ w).trans rfl
  |exact λw=>(cx _ w).trans rfl
  |exact(congrArg (Option.map λi:TypeInfo=>(i.zero,i.size,i.bytes)) (pG _)).trans rfl
end Go.Proofs.YtjagmhagphbfcaaGreatDoor
