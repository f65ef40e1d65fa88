/- Lemmas, part 3. -/
import Derived.Conc.Machine
import Derived.Test.YtjagmhagphbfcaaGreatDoorT02
set_option maxRecDepth 100000
set_option linter.all false
namespace Go.Proofs.YtjagmhagphbfcaaGreatDoor
open Go
variable{o:Goroutine}{w:World}
section
variable{P:Program}
def tO(w:World)(o:Goroutine):Prop:=o.again w=o
def tO.running(h:o.status=.running):tO w o:=by
 unfold tO Goroutine.again;rw[h]
def tO.finished(h:o.status=.finished):tO w o:=by
 unfold tO Goroutine.again;rw[h]
end
end Go.Proofs.YtjagmhagphbfcaaGreatDoor
