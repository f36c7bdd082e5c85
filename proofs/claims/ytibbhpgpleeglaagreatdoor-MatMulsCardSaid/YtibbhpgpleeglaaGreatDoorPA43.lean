/- The walks and plain laws beneath the statements. -/
import Derived.Test.YtibbhpgpleeglaaGreatDoorPA42
import Derived.Test.YtibbhpgpleeglaaGreatDoorPA15
import Derived.Deep.Slices
import Derived.Deep.Fields
import Derived.ChangeSame
import Derived.Lib.SmallJoins
namespace Go.Proofs.YtibbhpgpleeglaaGreatDoor
open Go.RowKit Go.WideShapes Go.ChangeShapes Go.Deep
section
variable {H : Type} {enc : TypeId × Value → H} {w : World}
theorem cells_Int : Tryz.prog.cellsOf 27 = 2 := by kernel_rfl
end
end Go.Proofs.YtibbhpgpleeglaaGreatDoor

