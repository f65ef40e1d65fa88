/- Lemmas, part 3. -/
import Derived.Conc.Machine
import Derived.Test.YtjagmhagphbfcaaGreatDoorO02
set_option maxRecDepth 100000
set_option linter.all false
namespace Go.Proofs.YtjagmhagphbfcaaGreatDoor
open Go
section
variable{P:Program}
def tO(w:World)(o:Goroutine):Prop:=o.again w=o
theorem tO.running{w:World}{o:Goroutine}(h:o.status=.running):tO w o:=by
 unfold tO Goroutine.again;rw[h]
theorem tO.finished{w:World}{o:Goroutine}(h:o.status=.finished):tO w o:=by
 unfold tO Goroutine.again;rw[h]
end
end Go.Proofs.YtjagmhagphbfcaaGreatDoor
