/-
  DERIVED. GIVEN WITH THE SEED: THE CARDS: each row of YtmnmfidcldmhdaaDoorRows.lean that lists a variable, with what it lists TIED to the program's text (the seventh form; the later family's looks); each row that meets fmt, with fmt's text TOLD by the authors' own Lean function (tested against real Go, not proved from fmt's source: count such statements apart). THE CARD IS WHAT COUNTS. Prove the row's statement (the work); the ties are given (YtmnmfidcldmhdaaDoorTie.lean); close each card by the builder's one call (the guide's Derived/Test/ToyasCard.lean, 'card_holds'). Laid BY PROGRAM, IN A SANDBOX (cutbox-door.mjs). By AI agents, Wed Nov 11 2026. No macro, syntax, notation, axiom, sorry.
-/
import Derived.Test.YtmnmfidcldmhdaaDoorRows
import GoSem.ClaimSeven
namespace Go.Proofs.YtmnmfidcldmhdaaDoor
namespace Rows

/-- THE TIED CARD OF 'ogeelaw02.WholeAdds'. -/
def wholeAddsCard : Claim7 := { stood := { row := wholeAddsRow, standIns := [], harness := (true, "aba236ab98d9686be886b78cbcf90ea3165ce5553a66f0bfda88abb963023706"), looks := false }, kinds := [], alts := [], laidByText := true, laidKinds := [.data, .data, .pinned], laidTests := true, laidLooks := .later }
def WholeAddsCardSaid : Prop := Claim7.holds Tryd.pinned (.plain (OpenSpec.ofChange wholeAddsSpec)) wholeAddsCard

/-- THE TIED CARD OF 'ogeelaw02.WholeMuls'. -/
def wholeMulsCard : Claim7 := { stood := { row := wholeMulsRow, standIns := [], harness := (true, "aba236ab98d9686be886b78cbcf90ea3165ce5553a66f0bfda88abb963023706"), looks := false }, kinds := [], alts := [], laidByText := true, laidKinds := [.data, .data, .pinned], laidTests := true, laidLooks := .later }
def WholeMulsCardSaid : Prop := Claim7.holds Tryd.pinned (.plain (OpenSpec.ofChange wholeMulsSpec)) wholeMulsCard

/-- THE TIED CARD OF 'ogeelaw02.WholeDivs'. -/
def wholeDivsCard : Claim7 := { stood := { row := wholeDivsRow, standIns := [], harness := (true, "aba236ab98d9686be886b78cbcf90ea3165ce5553a66f0bfda88abb963023706"), looks := false }, kinds := [], alts := [], laidByText := true, laidKinds := [.data, .data, .pinned], laidTests := true, laidLooks := .later }
def WholeDivsCardSaid : Prop := Claim7.holds Tryd.pinned (.plain (OpenSpec.ofChange wholeDivsSpec)) wholeDivsCard

/-- THE TIED CARD OF 'ogeelaw02.WholeShifts'. -/
def wholeShiftsCard : Claim7 := { stood := { row := wholeShiftsRow, standIns := [], harness := (true, "aba236ab98d9686be886b78cbcf90ea3165ce5553a66f0bfda88abb963023706"), looks := false }, kinds := [], alts := [], laidByText := true, laidKinds := [.data, .data, .pinned], laidTests := true, laidLooks := .later }
def WholeShiftsCardSaid : Prop := Claim7.holds Tryd.pinned (.plain (OpenSpec.ofChange wholeShiftsSpec)) wholeShiftsCard

/-- THE TIED CARD OF 'ogeelaw02.WholeRing'. -/
def wholeRingCard : Claim7 := { stood := { row := wholeRingRow, standIns := [], harness := (true, "aba236ab98d9686be886b78cbcf90ea3165ce5553a66f0bfda88abb963023706"), looks := false }, kinds := [], alts := [], laidByText := true, laidKinds := [.data, .data, .pinned], laidTests := true, laidLooks := .later }
def WholeRingCardSaid : Prop := Claim7.holds Tryd.pinned (.plain (OpenSpec.ofChange wholeRingSpec)) wholeRingCard

/-- THE TIED CARD OF 'ogeelaw02.WholeOrder'. -/
def wholeOrderCard : Claim7 := { stood := { row := wholeOrderRow, standIns := [], harness := (true, "aba236ab98d9686be886b78cbcf90ea3165ce5553a66f0bfda88abb963023706"), looks := false }, kinds := [], alts := [], laidByText := true, laidKinds := [.data, .data, .pinned], laidTests := true, laidLooks := .later }
def WholeOrderCardSaid : Prop := Claim7.holds Tryd.pinned (.plain (OpenSpec.ofChange wholeOrderSpec)) wholeOrderCard

/-- THE TIED CARD OF 'ogeelaw02.WholeParts'. -/
def wholePartsCard : Claim7 := { stood := { row := wholePartsRow, standIns := [], harness := (true, "aba236ab98d9686be886b78cbcf90ea3165ce5553a66f0bfda88abb963023706"), looks := false }, kinds := [], alts := [], laidByText := true, laidKinds := [.data, .data, .pinned], laidTests := true, laidLooks := .later }
def WholePartsCardSaid : Prop := Claim7.holds Tryd.pinned (.plain (OpenSpec.ofChange wholePartsSpec)) wholePartsCard

/-- THE TIED CARD OF 'ogeelaw02.WholeForms'. -/
def wholeFormsCard : Claim7 := { stood := { row := wholeFormsRow, standIns := [], harness := (true, "aba236ab98d9686be886b78cbcf90ea3165ce5553a66f0bfda88abb963023706"), looks := false }, kinds := [], alts := [], laidByText := true, laidKinds := [.data, .data, .pinned], laidTests := true, laidLooks := .later }
def WholeFormsCardSaid : Prop := Claim7.holds Tryd.pinned (.plain (OpenSpec.ofChange wholeFormsSpec)) wholeFormsCard

/-- THE TIED CARD OF 'ogeelaw03.DigitsBack'. -/
def digitsBackCard : Claim7 := { stood := { row := digitsBackRow, standIns := [], harness := (true, "aba236ab98d9686be886b78cbcf90ea3165ce5553a66f0bfda88abb963023706"), looks := false }, kinds := [], alts := [], laidByText := true, laidKinds := [.data, .data, .data, .data, .pinned], laidTests := true, laidLooks := .later }
def DigitsBackCardSaid : Prop := Claim7.holds Tryd.pinned (.plain (OpenSpec.ofChange digitsBackSpec)) digitsBackCard

/-- THE TIED CARD OF 'ogeelaw03.DigitsStep'. -/
def digitsStepCard : Claim7 := { stood := { row := digitsStepRow, standIns := [], harness := (true, "aba236ab98d9686be886b78cbcf90ea3165ce5553a66f0bfda88abb963023706"), looks := false }, kinds := [], alts := [], laidByText := true, laidKinds := [.data, .data, .data, .data, .pinned], laidTests := true, laidLooks := .later }
def DigitsStepCardSaid : Prop := Claim7.holds Tryd.pinned (.plain (OpenSpec.ofChange digitsStepSpec)) digitsStepCard

/-- THE SECOND FORM's CARD OF 'ogeelaw02.WholeAdds'. -/
def wholeAddsUptoCard : Claim7 := { stood := { row := wholeAddsUptoRow, standIns := [], harness := (true, "aba236ab98d9686be886b78cbcf90ea3165ce5553a66f0bfda88abb963023706"), looks := false }, kinds := [], alts := [], laidByText := true, laidKinds := [.data, .data, .pinned], laidTests := true, laidLooks := .later }
def WholeAddsUptoCardSaid : Prop := Claim7.holds Tryd.pinned (.plain (OpenSpec.upto wholeAddsSpec)) wholeAddsUptoCard

/-- THE SECOND FORM's CARD OF 'ogeelaw02.WholeMuls'. -/
def wholeMulsUptoCard : Claim7 := { stood := { row := wholeMulsUptoRow, standIns := [], harness := (true, "aba236ab98d9686be886b78cbcf90ea3165ce5553a66f0bfda88abb963023706"), looks := false }, kinds := [], alts := [], laidByText := true, laidKinds := [.data, .data, .pinned], laidTests := true, laidLooks := .later }
def WholeMulsUptoCardSaid : Prop := Claim7.holds Tryd.pinned (.plain (OpenSpec.upto wholeMulsSpec)) wholeMulsUptoCard

/-- THE SECOND FORM's CARD OF 'ogeelaw02.WholeDivs'. -/
def wholeDivsUptoCard : Claim7 := { stood := { row := wholeDivsUptoRow, standIns := [], harness := (true, "aba236ab98d9686be886b78cbcf90ea3165ce5553a66f0bfda88abb963023706"), looks := false }, kinds := [], alts := [], laidByText := true, laidKinds := [.data, .data, .pinned], laidTests := true, laidLooks := .later }
def WholeDivsUptoCardSaid : Prop := Claim7.holds Tryd.pinned (.plain (OpenSpec.upto wholeDivsSpec)) wholeDivsUptoCard

/-- THE SECOND FORM's CARD OF 'ogeelaw02.WholeShifts'. -/
def wholeShiftsUptoCard : Claim7 := { stood := { row := wholeShiftsUptoRow, standIns := [], harness := (true, "aba236ab98d9686be886b78cbcf90ea3165ce5553a66f0bfda88abb963023706"), looks := false }, kinds := [], alts := [], laidByText := true, laidKinds := [.data, .data, .pinned], laidTests := true, laidLooks := .later }
def WholeShiftsUptoCardSaid : Prop := Claim7.holds Tryd.pinned (.plain (OpenSpec.upto wholeShiftsSpec)) wholeShiftsUptoCard

/-- THE SECOND FORM's CARD OF 'ogeelaw02.WholeRing'. -/
def wholeRingUptoCard : Claim7 := { stood := { row := wholeRingUptoRow, standIns := [], harness := (true, "aba236ab98d9686be886b78cbcf90ea3165ce5553a66f0bfda88abb963023706"), looks := false }, kinds := [], alts := [], laidByText := true, laidKinds := [.data, .data, .pinned], laidTests := true, laidLooks := .later }
def WholeRingUptoCardSaid : Prop := Claim7.holds Tryd.pinned (.plain (OpenSpec.upto wholeRingSpec)) wholeRingUptoCard

/-- THE SECOND FORM's CARD OF 'ogeelaw02.WholeOrder'. -/
def wholeOrderUptoCard : Claim7 := { stood := { row := wholeOrderUptoRow, standIns := [], harness := (true, "aba236ab98d9686be886b78cbcf90ea3165ce5553a66f0bfda88abb963023706"), looks := false }, kinds := [], alts := [], laidByText := true, laidKinds := [.data, .data, .pinned], laidTests := true, laidLooks := .later }
def WholeOrderUptoCardSaid : Prop := Claim7.holds Tryd.pinned (.plain (OpenSpec.upto wholeOrderSpec)) wholeOrderUptoCard

/-- THE SECOND FORM's CARD OF 'ogeelaw02.WholeParts'. -/
def wholePartsUptoCard : Claim7 := { stood := { row := wholePartsUptoRow, standIns := [], harness := (true, "aba236ab98d9686be886b78cbcf90ea3165ce5553a66f0bfda88abb963023706"), looks := false }, kinds := [], alts := [], laidByText := true, laidKinds := [.data, .data, .pinned], laidTests := true, laidLooks := .later }
def WholePartsUptoCardSaid : Prop := Claim7.holds Tryd.pinned (.plain (OpenSpec.upto wholePartsSpec)) wholePartsUptoCard

/-- THE SECOND FORM's CARD OF 'ogeelaw02.WholeForms'. -/
def wholeFormsUptoCard : Claim7 := { stood := { row := wholeFormsUptoRow, standIns := [], harness := (true, "aba236ab98d9686be886b78cbcf90ea3165ce5553a66f0bfda88abb963023706"), looks := false }, kinds := [], alts := [], laidByText := true, laidKinds := [.data, .data, .pinned], laidTests := true, laidLooks := .later }
def WholeFormsUptoCardSaid : Prop := Claim7.holds Tryd.pinned (.plain (OpenSpec.upto wholeFormsSpec)) wholeFormsUptoCard

/-- THE SECOND FORM's CARD OF 'ogeelaw03.DigitsBack'. -/
def digitsBackUptoCard : Claim7 := { stood := { row := digitsBackUptoRow, standIns := [], harness := (true, "aba236ab98d9686be886b78cbcf90ea3165ce5553a66f0bfda88abb963023706"), looks := false }, kinds := [], alts := [], laidByText := true, laidKinds := [.data, .data, .data, .data, .pinned], laidTests := true, laidLooks := .later }
def DigitsBackUptoCardSaid : Prop := Claim7.holds Tryd.pinned (.plain (OpenSpec.upto digitsBackSpec)) digitsBackUptoCard

/-- THE SECOND FORM's CARD OF 'ogeelaw03.DigitsStep'. -/
def digitsStepUptoCard : Claim7 := { stood := { row := digitsStepUptoRow, standIns := [], harness := (true, "aba236ab98d9686be886b78cbcf90ea3165ce5553a66f0bfda88abb963023706"), looks := false }, kinds := [], alts := [], laidByText := true, laidKinds := [.data, .data, .data, .data, .pinned], laidTests := true, laidLooks := .later }
def DigitsStepUptoCardSaid : Prop := Claim7.holds Tryd.pinned (.plain (OpenSpec.upto digitsStepSpec)) digitsStepUptoCard
end Rows
end Go.Proofs.YtmnmfidcldmhdaaDoor
