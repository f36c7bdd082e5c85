/- The law ogee's LangPrints: what the card asks of the program itself. -/
import Derived.Test.YtemkmhpfjefbmaaGreatDoorRows
import Derived.JoinedCond
namespace Go.Proofs.YtemkmhpfjefbmaaGreatDoor.langPrintsUpto
theorem j1 : (Rows.langPrintsUptoRow.inPlace == Tryz.pinned.checked.prog.inPlace 3) = true := by kernel_rfl
theorem j2 : (Rows.langPrintsUptoRow.unfollowed == Tryz.pinned.checked.prog.unfollowed 3) = true := by kernel_rfl
theorem j3 : (Rows.langPrintsUptoRow.recurses == Tryz.pinned.checked.prog.recurses 3) = true := by kernel_rfl
theorem j4 : (Rows.langPrintsUptoRow.named == Tryz.pinned.checked.prog.varsNamed 3) = true := by kernel_rfl
theorem facts : joinedFacts Tryz.pinned.checked.prog 3 Tryz.f3 (Rows.OpenSpec.upto Rows.langPrintsSpec).bare Rows.langPrintsUptoRow = true := by
  unfold joinedFacts
  rw [j1, j2, j3, j4]
  kernel_rfl
end Go.Proofs.YtemkmhpfjefbmaaGreatDoor.langPrintsUpto
