/-
  DERIVED. GIVEN WITH THE SEED: THE CARDS: each row of YtkgogbmeehiloaaGreatDoorRows.lean that lists a variable, with what it lists TIED to the program's text (the seventh form; the later family's looks); each row that meets fmt, with fmt's text TOLD by the authors' own Lean function (tested against real Go, not proved from fmt's source: count such statements apart). THE CARD IS WHAT COUNTS. Prove the row's statement (the work); the ties are given (YtkgogbmeehiloaaGreatDoorTie.lean); close each card by the builder's one call (the guide's Derived/Test/ToyasCard.lean, 'card_holds'). Laid BY PROGRAM, IN A SANDBOX (cutbox-door.mjs). By AI agents, Wed Nov 11 2026. No macro, syntax, notation, axiom, sorry.
-/
import Derived.Test.YtkgogbmeehiloaaGreatDoorRows
import GoSem.ClaimSeven
namespace Go.Proofs.YtkgogbmeehiloaaGreatDoor
namespace Rows

/-- THE TIED CARD OF 'ogeelaw03.DigitsParses'. -/
def digitsParsesCard : Claim7 := { stood := { row := digitsParsesRow, standIns := [], harness := (true, "fb5b8da014e62175f56becb8bed609017b5bd7f07fd6f2ec7ccb61327987950f"), looks := false }, kinds := [], alts := [], laidByText := true, laidKinds := [.data, .data, .data, .data, .pinned], laidTests := true, laidLooks := .later }
def DigitsParsesCardSaid : Prop := Claim7.holds Tryz.pinned (.plain (OpenSpec.ofChange digitsParsesSpec)) digitsParsesCard

/-- THE TIED CARD OF 'ogeelaw03.DigitsPrints'. -/
def digitsPrintsCard : Claim7 := { stood := { row := digitsPrintsRow, standIns := [], harness := (true, "fb5b8da014e62175f56becb8bed609017b5bd7f07fd6f2ec7ccb61327987950f"), looks := false }, kinds := [], alts := [], laidByText := true, laidKinds := [.data, .data, .data, .data, .pinned], laidTests := true, laidLooks := .later }
def DigitsPrintsCardSaid : Prop := Claim7.holds Tryz.pinned (.plain (OpenSpec.ofChange digitsPrintsSpec)) digitsPrintsCard

/-- THE TIED CARD OF 'ogeelaw06.LitPrints'. -/
def litPrintsCard : Claim7 := { stood := { row := litPrintsRow, standIns := [], harness := (true, "fb5b8da014e62175f56becb8bed609017b5bd7f07fd6f2ec7ccb61327987950f"), looks := false }, kinds := [], alts := [], laidByText := true, laidKinds := [.data, .data, .data, .data, .pinned], laidTests := true, laidLooks := .later }
def LitPrintsCardSaid : Prop := Claim7.holds Tryz.pinned (.plain (OpenSpec.ofChange litPrintsSpec)) litPrintsCard

/-- THE TIED CARD OF 'ogeelaw06.LitBack'. -/
def litBackCard : Claim7 := { stood := { row := litBackRow, standIns := [], harness := (true, "fb5b8da014e62175f56becb8bed609017b5bd7f07fd6f2ec7ccb61327987950f"), looks := false }, kinds := [], alts := [], laidByText := true, laidKinds := [.data, .data, .data, .data, .pinned], laidTests := true, laidLooks := .later }
def LitBackCardSaid : Prop := Claim7.holds Tryz.pinned (.plain (OpenSpec.ofChange litBackSpec)) litBackCard

/-- THE TIED CARD OF 'ogeelaw06.LitPowers'. -/
def litPowersCard : Claim7 := { stood := { row := litPowersRow, standIns := [], harness := (true, "fb5b8da014e62175f56becb8bed609017b5bd7f07fd6f2ec7ccb61327987950f"), looks := false }, kinds := [], alts := [], laidByText := true, laidKinds := [.data, .data, .data, .data, .pinned], laidTests := true, laidLooks := .later }
def LitPowersCardSaid : Prop := Claim7.holds Tryz.pinned (.plain (OpenSpec.ofChange litPowersSpec)) litPowersCard

/-- THE SECOND FORM's CARD OF 'ogeelaw03.DigitsParses'. -/
def digitsParsesUptoCard : Claim7 := { stood := { row := digitsParsesUptoRow, standIns := [], harness := (true, "fb5b8da014e62175f56becb8bed609017b5bd7f07fd6f2ec7ccb61327987950f"), looks := false }, kinds := [], alts := [], laidByText := true, laidKinds := [.data, .data, .data, .data, .pinned], laidTests := true, laidLooks := .later }
def DigitsParsesUptoCardSaid : Prop := Claim7.holds Tryz.pinned (.plain (OpenSpec.upto digitsParsesSpec)) digitsParsesUptoCard

/-- THE SECOND FORM's CARD OF 'ogeelaw03.DigitsPrints'. -/
def digitsPrintsUptoCard : Claim7 := { stood := { row := digitsPrintsUptoRow, standIns := [], harness := (true, "fb5b8da014e62175f56becb8bed609017b5bd7f07fd6f2ec7ccb61327987950f"), looks := false }, kinds := [], alts := [], laidByText := true, laidKinds := [.data, .data, .data, .data, .pinned], laidTests := true, laidLooks := .later }
def DigitsPrintsUptoCardSaid : Prop := Claim7.holds Tryz.pinned (.plain (OpenSpec.upto digitsPrintsSpec)) digitsPrintsUptoCard

/-- THE SECOND FORM's CARD OF 'ogeelaw06.LitPrints'. -/
def litPrintsUptoCard : Claim7 := { stood := { row := litPrintsUptoRow, standIns := [], harness := (true, "fb5b8da014e62175f56becb8bed609017b5bd7f07fd6f2ec7ccb61327987950f"), looks := false }, kinds := [], alts := [], laidByText := true, laidKinds := [.data, .data, .data, .data, .pinned], laidTests := true, laidLooks := .later }
def LitPrintsUptoCardSaid : Prop := Claim7.holds Tryz.pinned (.plain (OpenSpec.upto litPrintsSpec)) litPrintsUptoCard

/-- THE SECOND FORM's CARD OF 'ogeelaw06.LitBack'. -/
def litBackUptoCard : Claim7 := { stood := { row := litBackUptoRow, standIns := [], harness := (true, "fb5b8da014e62175f56becb8bed609017b5bd7f07fd6f2ec7ccb61327987950f"), looks := false }, kinds := [], alts := [], laidByText := true, laidKinds := [.data, .data, .data, .data, .pinned], laidTests := true, laidLooks := .later }
def LitBackUptoCardSaid : Prop := Claim7.holds Tryz.pinned (.plain (OpenSpec.upto litBackSpec)) litBackUptoCard

/-- THE SECOND FORM's CARD OF 'ogeelaw06.LitPowers'. -/
def litPowersUptoCard : Claim7 := { stood := { row := litPowersUptoRow, standIns := [], harness := (true, "fb5b8da014e62175f56becb8bed609017b5bd7f07fd6f2ec7ccb61327987950f"), looks := false }, kinds := [], alts := [], laidByText := true, laidKinds := [.data, .data, .data, .data, .pinned], laidTests := true, laidLooks := .later }
def LitPowersUptoCardSaid : Prop := Claim7.holds Tryz.pinned (.plain (OpenSpec.upto litPowersSpec)) litPowersUptoCard
end Rows
end Go.Proofs.YtkgogbmeehiloaaGreatDoor
