/-
  DERIVED. GIVEN WITH THE SEED: THE CARDS: each row of YtaelfkdjlioegaaGreatDoorRows.lean that lists a variable, with what it lists TIED to the program's text (the seventh form; the later family's looks); each row that meets fmt, with fmt's text TOLD by the authors' own Lean function (tested against real Go, not proved from fmt's source: count such statements apart). THE CARD IS WHAT COUNTS. Prove the row's statement (the work); the ties are given (YtaelfkdjlioegaaGreatDoorTie.lean); close each card by the builder's one call (the guide's Derived/Test/ToyasCard.lean, 'card_holds'). Laid BY PROGRAM, IN A SANDBOX (cutbox-door.mjs). By AI agents, Wed Nov 11 2026. No macro, syntax, notation, axiom, sorry.
-/
import Derived.Test.YtaelfkdjlioegaaGreatDoorRows
import GoSem.ClaimSeven
namespace Go.Proofs.YtaelfkdjlioegaaGreatDoor
namespace Rows

/-- THE TIED CARD OF 'ogeelaw28.ProbChecks'. -/
def probChecksCard : Claim7 := { stood := { row := probChecksRow, standIns := [], harness := (true, "cbeccfcb8287b83603f18c06020b08ce399f976effaac2d80da0f21adcf69aa3"), looks := false }, kinds := [], alts := [], laidByText := true, laidKinds := [.data, .data, .pinned], laidTests := true, laidLooks := .later }
def ProbChecksCardSaid : Prop := Claim7.holds Tryz.pinned (.plain (OpenSpec.ofChange probChecksSpec)) probChecksCard

/-- THE TIED CARD OF 'ogeelaw28.ProbOwns'. -/
def probOwnsCard : Claim7 := { stood := { row := probOwnsRow, standIns := [], harness := (true, "cbeccfcb8287b83603f18c06020b08ce399f976effaac2d80da0f21adcf69aa3"), looks := false }, kinds := [], alts := [], laidByText := true, laidKinds := [.data, .data, .pinned], laidTests := true, laidLooks := .later }
def ProbOwnsCardSaid : Prop := Claim7.holds Tryz.pinned (.plain (OpenSpec.ofChange probOwnsSpec)) probOwnsCard

/-- THE TIED CARD OF 'ogeelaw28.ProbSame'. -/
def probSameCard : Claim7 := { stood := { row := probSameRow, standIns := [], harness := (true, "cbeccfcb8287b83603f18c06020b08ce399f976effaac2d80da0f21adcf69aa3"), looks := false }, kinds := [], alts := [], laidByText := true, laidKinds := [.data, .data, .pinned], laidTests := true, laidLooks := .later }
def ProbSameCardSaid : Prop := Claim7.holds Tryz.pinned (.plain (OpenSpec.ofChange probSameSpec)) probSameCard

/-- THE TIED CARD OF 'ogeelaw28.ProbParts'. -/
def probPartsCard : Claim7 := { stood := { row := probPartsRow, standIns := [], harness := (true, "cbeccfcb8287b83603f18c06020b08ce399f976effaac2d80da0f21adcf69aa3"), looks := false }, kinds := [], alts := [], laidByText := true, laidKinds := [.data, .data, .pinned], laidTests := true, laidLooks := .later }
def ProbPartsCardSaid : Prop := Claim7.holds Tryz.pinned (.plain (OpenSpec.ofChange probPartsSpec)) probPartsCard

/-- THE SECOND FORM's CARD OF 'ogeelaw28.ProbChecks'. -/
def probChecksUptoCard : Claim7 := { stood := { row := probChecksUptoRow, standIns := [], harness := (true, "cbeccfcb8287b83603f18c06020b08ce399f976effaac2d80da0f21adcf69aa3"), looks := false }, kinds := [], alts := [], laidByText := true, laidKinds := [.data, .data, .pinned], laidTests := true, laidLooks := .later }
def ProbChecksUptoCardSaid : Prop := Claim7.holds Tryz.pinned (.plain (OpenSpec.upto probChecksSpec)) probChecksUptoCard

/-- THE SECOND FORM's CARD OF 'ogeelaw28.ProbOwns'. -/
def probOwnsUptoCard : Claim7 := { stood := { row := probOwnsUptoRow, standIns := [], harness := (true, "cbeccfcb8287b83603f18c06020b08ce399f976effaac2d80da0f21adcf69aa3"), looks := false }, kinds := [], alts := [], laidByText := true, laidKinds := [.data, .data, .pinned], laidTests := true, laidLooks := .later }
def ProbOwnsUptoCardSaid : Prop := Claim7.holds Tryz.pinned (.plain (OpenSpec.upto probOwnsSpec)) probOwnsUptoCard

/-- THE SECOND FORM's CARD OF 'ogeelaw28.ProbSame'. -/
def probSameUptoCard : Claim7 := { stood := { row := probSameUptoRow, standIns := [], harness := (true, "cbeccfcb8287b83603f18c06020b08ce399f976effaac2d80da0f21adcf69aa3"), looks := false }, kinds := [], alts := [], laidByText := true, laidKinds := [.data, .data, .pinned], laidTests := true, laidLooks := .later }
def ProbSameUptoCardSaid : Prop := Claim7.holds Tryz.pinned (.plain (OpenSpec.upto probSameSpec)) probSameUptoCard

/-- THE SECOND FORM's CARD OF 'ogeelaw28.ProbParts'. -/
def probPartsUptoCard : Claim7 := { stood := { row := probPartsUptoRow, standIns := [], harness := (true, "cbeccfcb8287b83603f18c06020b08ce399f976effaac2d80da0f21adcf69aa3"), looks := false }, kinds := [], alts := [], laidByText := true, laidKinds := [.data, .data, .pinned], laidTests := true, laidLooks := .later }
def ProbPartsUptoCardSaid : Prop := Claim7.holds Tryz.pinned (.plain (OpenSpec.upto probPartsSpec)) probPartsUptoCard
end Rows
end Go.Proofs.YtaelfkdjlioegaaGreatDoor
