/- The walks and plain laws beneath the statements. -/
import Derived.Test.YtkgogbmeehiloaaGreatDoorPK39
import Derived.Test.YtkgogbmeehiloaaGreatDoorPK14
import Derived.Deep.Slices
import Derived.Deep.Fields
import Derived.ChangeSame
import Derived.Lib.SmallJoins
namespace Go.Proofs.YtkgogbmeehiloaaGreatDoor
open Go.RowKit Go.WideShapes Go.ChangeShapes Go.Deep
section
variable {H : Type} {enc : TypeId × Value → H} {w : World}
theorem cells_Int : Tryz.prog.cellsOf 24 = 2 := by kernel_rfl
end
end Go.Proofs.YtkgogbmeehiloaaGreatDoor

