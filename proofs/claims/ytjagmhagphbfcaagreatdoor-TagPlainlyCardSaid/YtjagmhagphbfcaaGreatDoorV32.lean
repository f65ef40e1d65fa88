/- Part 32 of a proof (made small by a program; blanks, names and remarks only). -/
import Derived.Test.YtjagmhagphbfcaaGreatDoorV31
set_option maxRecDepth 100000
set_option linter.all false
namespace Go.Proofs.YtjagmhagphbfcaaGreatDoor.cA
open Go Go.Proofs Go.Conc Lo Dn Lw Go.ChangeShapes Go.WideShapes Go.ChangeAt Go.RowKit
theorem O8(os:Os)(args:Array Value):laidMetH Tryz.prog xi ((World.doorLaid Tryz.prog 40 os).forCall (λ_ _=>0) ⟨#[],args,[]⟩).memory:=
 laidMetH_of_parts3 (fuel:=8) (laidMet_of_run' 8 (by kernel_rfl) (by kernel_rfl)) (by kernel_rfl) (by kernel_rfl)
def Xv:Value:=.agg #[.string ⟨#[]⟩,.string ⟨#[]⟩,.string ⟨#[]⟩,.slice none 0 0,.slice none 0 0]
end Go.Proofs.YtjagmhagphbfcaaGreatDoor.cA
