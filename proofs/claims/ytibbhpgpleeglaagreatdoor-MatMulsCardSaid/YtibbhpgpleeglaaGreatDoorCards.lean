/-
  DERIVED. GIVEN WITH THE SEED: THE CARDS: each row of YtibbhpgpleeglaaGreatDoorRows.lean that lists a variable, with what it lists TIED to the program's text (the seventh form; the later family's looks); each row that meets fmt, with fmt's text TOLD by the authors' own Lean function (tested against real Go, not proved from fmt's source: count such statements apart). THE CARD IS WHAT COUNTS. Prove the row's statement (the work); the ties are given (YtibbhpgpleeglaaGreatDoorTie.lean); close each card by the builder's one call (the guide's Derived/Test/ToyasCard.lean, 'card_holds'). Laid BY PROGRAM, IN A SANDBOX (cutbox-door.mjs). By AI agents, Wed Nov 11 2026. No macro, syntax, notation, axiom, sorry.
-/
import Derived.Test.YtibbhpgpleeglaaGreatDoorRows
import GoSem.ClaimSeven
namespace Go.Proofs.YtibbhpgpleeglaaGreatDoor
namespace Rows

/-- THE TIED CARD OF 'ogeelaw10.MatDets'. -/
def matDetsCard : Claim7 := { stood := { row := matDetsRow, standIns := [], harness := (true, "c15611557793c6f003c84dbda99dad321922472f96007da1fe5d4df067f4ab75"), looks := false }, kinds := [], alts := [], laidByText := true, laidKinds := [.data, .data, .pinned], laidTests := true, laidLooks := .later }
def MatDetsCardSaid : Prop := Claim7.holds Tryz.pinned (.plain (OpenSpec.ofChange matDetsSpec)) matDetsCard

/-- THE TIED CARD OF 'ogeelaw10.MatTurns'. -/
def matTurnsCard : Claim7 := { stood := { row := matTurnsRow, standIns := [], harness := (true, "c15611557793c6f003c84dbda99dad321922472f96007da1fe5d4df067f4ab75"), looks := false }, kinds := [], alts := [], laidByText := true, laidKinds := [.data, .data, .pinned], laidTests := true, laidLooks := .later }
def MatTurnsCardSaid : Prop := Claim7.holds Tryz.pinned (.plain (OpenSpec.ofChange matTurnsSpec)) matTurnsCard

/-- THE TIED CARD OF 'ogeelaw10.MatMuls'. -/
def matMulsCard : Claim7 := { stood := { row := matMulsRow, standIns := [], harness := (true, "c15611557793c6f003c84dbda99dad321922472f96007da1fe5d4df067f4ab75"), looks := false }, kinds := [], alts := [], laidByText := true, laidKinds := [.data, .data, .pinned], laidTests := true, laidLooks := .later }
def MatMulsCardSaid : Prop := Claim7.holds Tryz.pinned (.plain (OpenSpec.ofChange matMulsSpec)) matMulsCard

/-- THE TIED CARD OF 'ogeelaw10.MatAdjs'. -/
def matAdjsCard : Claim7 := { stood := { row := matAdjsRow, standIns := [], harness := (true, "c15611557793c6f003c84dbda99dad321922472f96007da1fe5d4df067f4ab75"), looks := false }, kinds := [], alts := [], laidByText := true, laidKinds := [.data, .data, .pinned], laidTests := true, laidLooks := .later }
def MatAdjsCardSaid : Prop := Claim7.holds Tryz.pinned (.plain (OpenSpec.ofChange matAdjsSpec)) matAdjsCard

/-- THE SECOND FORM's CARD OF 'ogeelaw10.MatDets'. -/
def matDetsUptoCard : Claim7 := { stood := { row := matDetsUptoRow, standIns := [], harness := (true, "c15611557793c6f003c84dbda99dad321922472f96007da1fe5d4df067f4ab75"), looks := false }, kinds := [], alts := [], laidByText := true, laidKinds := [.data, .data, .pinned], laidTests := true, laidLooks := .later }
def MatDetsUptoCardSaid : Prop := Claim7.holds Tryz.pinned (.plain (OpenSpec.upto matDetsSpec)) matDetsUptoCard

/-- THE SECOND FORM's CARD OF 'ogeelaw10.MatTurns'. -/
def matTurnsUptoCard : Claim7 := { stood := { row := matTurnsUptoRow, standIns := [], harness := (true, "c15611557793c6f003c84dbda99dad321922472f96007da1fe5d4df067f4ab75"), looks := false }, kinds := [], alts := [], laidByText := true, laidKinds := [.data, .data, .pinned], laidTests := true, laidLooks := .later }
def MatTurnsUptoCardSaid : Prop := Claim7.holds Tryz.pinned (.plain (OpenSpec.upto matTurnsSpec)) matTurnsUptoCard

/-- THE SECOND FORM's CARD OF 'ogeelaw10.MatMuls'. -/
def matMulsUptoCard : Claim7 := { stood := { row := matMulsUptoRow, standIns := [], harness := (true, "c15611557793c6f003c84dbda99dad321922472f96007da1fe5d4df067f4ab75"), looks := false }, kinds := [], alts := [], laidByText := true, laidKinds := [.data, .data, .pinned], laidTests := true, laidLooks := .later }
def MatMulsUptoCardSaid : Prop := Claim7.holds Tryz.pinned (.plain (OpenSpec.upto matMulsSpec)) matMulsUptoCard

/-- THE SECOND FORM's CARD OF 'ogeelaw10.MatAdjs'. -/
def matAdjsUptoCard : Claim7 := { stood := { row := matAdjsUptoRow, standIns := [], harness := (true, "c15611557793c6f003c84dbda99dad321922472f96007da1fe5d4df067f4ab75"), looks := false }, kinds := [], alts := [], laidByText := true, laidKinds := [.data, .data, .pinned], laidTests := true, laidLooks := .later }
def MatAdjsUptoCardSaid : Prop := Claim7.holds Tryz.pinned (.plain (OpenSpec.upto matAdjsSpec)) matAdjsUptoCard
end Rows
end Go.Proofs.YtibbhpgpleeglaaGreatDoor
