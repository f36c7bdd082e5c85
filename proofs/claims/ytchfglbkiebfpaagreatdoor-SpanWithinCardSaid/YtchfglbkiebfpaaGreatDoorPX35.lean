/- The walks and plain laws beneath the statements. -/
import Derived.Test.YtchfglbkiebfpaaGreatDoorPX34
import Derived.Test.YtchfglbkiebfpaaGreatDoorPX11
import Derived.Deep.Slices
import Derived.Deep.Fields
import Derived.ChangeSame
import Derived.Lib.SmallJoins
namespace Go.Proofs.YtchfglbkiebfpaaGreatDoor
open Go.RowKit Go.WideShapes Go.ChangeShapes Go.Deep
section
variable {H : Type} {enc : TypeId × Value → H} {w : World}
theorem cells_Int : Tryz.prog.cellsOf 23 = 2 := by kernel_rfl
end
end Go.Proofs.YtchfglbkiebfpaaGreatDoor

