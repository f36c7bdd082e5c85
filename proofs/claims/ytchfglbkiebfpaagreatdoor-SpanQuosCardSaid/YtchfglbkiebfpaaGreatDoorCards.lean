/-
  DERIVED. GIVEN WITH THE SEED: THE CARDS: each row of YtchfglbkiebfpaaGreatDoorRows.lean that lists a variable, with what it lists TIED to the program's text (the seventh form; the later family's looks); each row that meets fmt, with fmt's text TOLD by the authors' own Lean function (tested against real Go, not proved from fmt's source: count such statements apart). THE CARD IS WHAT COUNTS. Prove the row's statement (the work); the ties are given (YtchfglbkiebfpaaGreatDoorTie.lean); close each card by the builder's one call (the guide's Derived/Test/ToyasCard.lean, 'card_holds'). Laid BY PROGRAM, IN A SANDBOX (cutbox-door.mjs). By AI agents, Wed Nov 11 2026. No macro, syntax, notation, axiom, sorry.
-/
import Derived.Test.YtchfglbkiebfpaaGreatDoorRows
import GoSem.ClaimSeven
namespace Go.Proofs.YtchfglbkiebfpaaGreatDoor
namespace Rows

/-- THE TIED CARD OF 'ogeelaw05.SpanRing'. -/
def spanRingCard : Claim7 := { stood := { row := spanRingRow, standIns := [], harness := (true, "ea2c78486ba4317a54c3313a49cabab808f17daf787cee3d2e717395e6ca8fb1"), looks := false }, kinds := [], alts := [], laidByText := true, laidKinds := [.data, .data, .pinned], laidTests := true, laidLooks := .later }
def SpanRingCardSaid : Prop := Claim7.holds Tryz.pinned (.plain (OpenSpec.ofChange spanRingSpec)) spanRingCard

/-- THE TIED CARD OF 'ogeelaw05.SpanQuos'. -/
def spanQuosCard : Claim7 := { stood := { row := spanQuosRow, standIns := [], harness := (true, "ea2c78486ba4317a54c3313a49cabab808f17daf787cee3d2e717395e6ca8fb1"), looks := false }, kinds := [], alts := [], laidByText := true, laidKinds := [.data, .data, .pinned], laidTests := true, laidLooks := .later }
def SpanQuosCardSaid : Prop := Claim7.holds Tryz.pinned (.plain (OpenSpec.ofChange spanQuosSpec)) spanQuosCard

/-- THE TIED CARD OF 'ogeelaw05.SpanMeets'. -/
def spanMeetsCard : Claim7 := { stood := { row := spanMeetsRow, standIns := [], harness := (true, "ea2c78486ba4317a54c3313a49cabab808f17daf787cee3d2e717395e6ca8fb1"), looks := false }, kinds := [], alts := [], laidByText := true, laidKinds := [.data, .data, .pinned], laidTests := true, laidLooks := .later }
def SpanMeetsCardSaid : Prop := Claim7.holds Tryz.pinned (.plain (OpenSpec.ofChange spanMeetsSpec)) spanMeetsCard

/-- THE TIED CARD OF 'ogeelaw05.SpanWithin'. -/
def spanWithinCard : Claim7 := { stood := { row := spanWithinRow, standIns := [], harness := (true, "ea2c78486ba4317a54c3313a49cabab808f17daf787cee3d2e717395e6ca8fb1"), looks := false }, kinds := [], alts := [], laidByText := true, laidKinds := [.data, .data, .pinned], laidTests := true, laidLooks := .later }
def SpanWithinCardSaid : Prop := Claim7.holds Tryz.pinned (.plain (OpenSpec.ofChange spanWithinSpec)) spanWithinCard

/-- THE TIED CARD OF 'ogeelaw05.SpanInside'. -/
def spanInsideCard : Claim7 := { stood := { row := spanInsideRow, standIns := [], harness := (true, "ea2c78486ba4317a54c3313a49cabab808f17daf787cee3d2e717395e6ca8fb1"), looks := false }, kinds := [], alts := [], laidByText := true, laidKinds := [.data, .data, .pinned], laidTests := true, laidLooks := .later }
def SpanInsideCardSaid : Prop := Claim7.holds Tryz.pinned (.plain (OpenSpec.ofChange spanInsideSpec)) spanInsideCard

/-- THE TIED CARD OF 'ogeelaw05.SpanForms'. -/
def spanFormsCard : Claim7 := { stood := { row := spanFormsRow, standIns := [], harness := (true, "ea2c78486ba4317a54c3313a49cabab808f17daf787cee3d2e717395e6ca8fb1"), looks := false }, kinds := [], alts := [], laidByText := true, laidKinds := [.data, .data, .pinned], laidTests := true, laidLooks := .later }
def SpanFormsCardSaid : Prop := Claim7.holds Tryz.pinned (.plain (OpenSpec.ofChange spanFormsSpec)) spanFormsCard

/-- THE TIED CARD OF 'ogeelaw05.SpanTight'. -/
def spanTightCard : Claim7 := { stood := { row := spanTightRow, standIns := [], harness := (true, "ea2c78486ba4317a54c3313a49cabab808f17daf787cee3d2e717395e6ca8fb1"), looks := false }, kinds := [], alts := [], laidByText := true, laidKinds := [.data, .data, .pinned], laidTests := true, laidLooks := .later }
def SpanTightCardSaid : Prop := Claim7.holds Tryz.pinned (.plain (OpenSpec.ofChange spanTightSpec)) spanTightCard

/-- THE TIED CARD OF 'ogeelaw10.MatDets'. -/
def matDetsCard : Claim7 := { stood := { row := matDetsRow, standIns := [], harness := (true, "ea2c78486ba4317a54c3313a49cabab808f17daf787cee3d2e717395e6ca8fb1"), looks := false }, kinds := [], alts := [], laidByText := true, laidKinds := [.data, .data, .pinned], laidTests := true, laidLooks := .later }
def MatDetsCardSaid : Prop := Claim7.holds Tryz.pinned (.plain (OpenSpec.ofChange matDetsSpec)) matDetsCard

/-- THE TIED CARD OF 'ogeelaw10.MatTurns'. -/
def matTurnsCard : Claim7 := { stood := { row := matTurnsRow, standIns := [], harness := (true, "ea2c78486ba4317a54c3313a49cabab808f17daf787cee3d2e717395e6ca8fb1"), looks := false }, kinds := [], alts := [], laidByText := true, laidKinds := [.data, .data, .pinned], laidTests := true, laidLooks := .later }
def MatTurnsCardSaid : Prop := Claim7.holds Tryz.pinned (.plain (OpenSpec.ofChange matTurnsSpec)) matTurnsCard

/-- THE TIED CARD OF 'ogeelaw10.MatMuls'. -/
def matMulsCard : Claim7 := { stood := { row := matMulsRow, standIns := [], harness := (true, "ea2c78486ba4317a54c3313a49cabab808f17daf787cee3d2e717395e6ca8fb1"), looks := false }, kinds := [], alts := [], laidByText := true, laidKinds := [.data, .data, .pinned], laidTests := true, laidLooks := .later }
def MatMulsCardSaid : Prop := Claim7.holds Tryz.pinned (.plain (OpenSpec.ofChange matMulsSpec)) matMulsCard

/-- THE TIED CARD OF 'ogeelaw10.MatAdjs'. -/
def matAdjsCard : Claim7 := { stood := { row := matAdjsRow, standIns := [], harness := (true, "ea2c78486ba4317a54c3313a49cabab808f17daf787cee3d2e717395e6ca8fb1"), looks := false }, kinds := [], alts := [], laidByText := true, laidKinds := [.data, .data, .pinned], laidTests := true, laidLooks := .later }
def MatAdjsCardSaid : Prop := Claim7.holds Tryz.pinned (.plain (OpenSpec.ofChange matAdjsSpec)) matAdjsCard

/-- THE SECOND FORM's CARD OF 'ogeelaw05.SpanRing'. -/
def spanRingUptoCard : Claim7 := { stood := { row := spanRingUptoRow, standIns := [], harness := (true, "ea2c78486ba4317a54c3313a49cabab808f17daf787cee3d2e717395e6ca8fb1"), looks := false }, kinds := [], alts := [], laidByText := true, laidKinds := [.data, .data, .pinned], laidTests := true, laidLooks := .later }
def SpanRingUptoCardSaid : Prop := Claim7.holds Tryz.pinned (.plain (OpenSpec.upto spanRingSpec)) spanRingUptoCard

/-- THE SECOND FORM's CARD OF 'ogeelaw05.SpanQuos'. -/
def spanQuosUptoCard : Claim7 := { stood := { row := spanQuosUptoRow, standIns := [], harness := (true, "ea2c78486ba4317a54c3313a49cabab808f17daf787cee3d2e717395e6ca8fb1"), looks := false }, kinds := [], alts := [], laidByText := true, laidKinds := [.data, .data, .pinned], laidTests := true, laidLooks := .later }
def SpanQuosUptoCardSaid : Prop := Claim7.holds Tryz.pinned (.plain (OpenSpec.upto spanQuosSpec)) spanQuosUptoCard

/-- THE SECOND FORM's CARD OF 'ogeelaw05.SpanMeets'. -/
def spanMeetsUptoCard : Claim7 := { stood := { row := spanMeetsUptoRow, standIns := [], harness := (true, "ea2c78486ba4317a54c3313a49cabab808f17daf787cee3d2e717395e6ca8fb1"), looks := false }, kinds := [], alts := [], laidByText := true, laidKinds := [.data, .data, .pinned], laidTests := true, laidLooks := .later }
def SpanMeetsUptoCardSaid : Prop := Claim7.holds Tryz.pinned (.plain (OpenSpec.upto spanMeetsSpec)) spanMeetsUptoCard

/-- THE SECOND FORM's CARD OF 'ogeelaw05.SpanWithin'. -/
def spanWithinUptoCard : Claim7 := { stood := { row := spanWithinUptoRow, standIns := [], harness := (true, "ea2c78486ba4317a54c3313a49cabab808f17daf787cee3d2e717395e6ca8fb1"), looks := false }, kinds := [], alts := [], laidByText := true, laidKinds := [.data, .data, .pinned], laidTests := true, laidLooks := .later }
def SpanWithinUptoCardSaid : Prop := Claim7.holds Tryz.pinned (.plain (OpenSpec.upto spanWithinSpec)) spanWithinUptoCard

/-- THE SECOND FORM's CARD OF 'ogeelaw05.SpanInside'. -/
def spanInsideUptoCard : Claim7 := { stood := { row := spanInsideUptoRow, standIns := [], harness := (true, "ea2c78486ba4317a54c3313a49cabab808f17daf787cee3d2e717395e6ca8fb1"), looks := false }, kinds := [], alts := [], laidByText := true, laidKinds := [.data, .data, .pinned], laidTests := true, laidLooks := .later }
def SpanInsideUptoCardSaid : Prop := Claim7.holds Tryz.pinned (.plain (OpenSpec.upto spanInsideSpec)) spanInsideUptoCard

/-- THE SECOND FORM's CARD OF 'ogeelaw05.SpanForms'. -/
def spanFormsUptoCard : Claim7 := { stood := { row := spanFormsUptoRow, standIns := [], harness := (true, "ea2c78486ba4317a54c3313a49cabab808f17daf787cee3d2e717395e6ca8fb1"), looks := false }, kinds := [], alts := [], laidByText := true, laidKinds := [.data, .data, .pinned], laidTests := true, laidLooks := .later }
def SpanFormsUptoCardSaid : Prop := Claim7.holds Tryz.pinned (.plain (OpenSpec.upto spanFormsSpec)) spanFormsUptoCard

/-- THE SECOND FORM's CARD OF 'ogeelaw05.SpanTight'. -/
def spanTightUptoCard : Claim7 := { stood := { row := spanTightUptoRow, standIns := [], harness := (true, "ea2c78486ba4317a54c3313a49cabab808f17daf787cee3d2e717395e6ca8fb1"), looks := false }, kinds := [], alts := [], laidByText := true, laidKinds := [.data, .data, .pinned], laidTests := true, laidLooks := .later }
def SpanTightUptoCardSaid : Prop := Claim7.holds Tryz.pinned (.plain (OpenSpec.upto spanTightSpec)) spanTightUptoCard

/-- THE SECOND FORM's CARD OF 'ogeelaw10.MatDets'. -/
def matDetsUptoCard : Claim7 := { stood := { row := matDetsUptoRow, standIns := [], harness := (true, "ea2c78486ba4317a54c3313a49cabab808f17daf787cee3d2e717395e6ca8fb1"), looks := false }, kinds := [], alts := [], laidByText := true, laidKinds := [.data, .data, .pinned], laidTests := true, laidLooks := .later }
def MatDetsUptoCardSaid : Prop := Claim7.holds Tryz.pinned (.plain (OpenSpec.upto matDetsSpec)) matDetsUptoCard

/-- THE SECOND FORM's CARD OF 'ogeelaw10.MatTurns'. -/
def matTurnsUptoCard : Claim7 := { stood := { row := matTurnsUptoRow, standIns := [], harness := (true, "ea2c78486ba4317a54c3313a49cabab808f17daf787cee3d2e717395e6ca8fb1"), looks := false }, kinds := [], alts := [], laidByText := true, laidKinds := [.data, .data, .pinned], laidTests := true, laidLooks := .later }
def MatTurnsUptoCardSaid : Prop := Claim7.holds Tryz.pinned (.plain (OpenSpec.upto matTurnsSpec)) matTurnsUptoCard

/-- THE SECOND FORM's CARD OF 'ogeelaw10.MatMuls'. -/
def matMulsUptoCard : Claim7 := { stood := { row := matMulsUptoRow, standIns := [], harness := (true, "ea2c78486ba4317a54c3313a49cabab808f17daf787cee3d2e717395e6ca8fb1"), looks := false }, kinds := [], alts := [], laidByText := true, laidKinds := [.data, .data, .pinned], laidTests := true, laidLooks := .later }
def MatMulsUptoCardSaid : Prop := Claim7.holds Tryz.pinned (.plain (OpenSpec.upto matMulsSpec)) matMulsUptoCard

/-- THE SECOND FORM's CARD OF 'ogeelaw10.MatAdjs'. -/
def matAdjsUptoCard : Claim7 := { stood := { row := matAdjsUptoRow, standIns := [], harness := (true, "ea2c78486ba4317a54c3313a49cabab808f17daf787cee3d2e717395e6ca8fb1"), looks := false }, kinds := [], alts := [], laidByText := true, laidKinds := [.data, .data, .pinned], laidTests := true, laidLooks := .later }
def MatAdjsUptoCardSaid : Prop := Claim7.holds Tryz.pinned (.plain (OpenSpec.upto matAdjsSpec)) matAdjsUptoCard
end Rows
end Go.Proofs.YtchfglbkiebfpaaGreatDoor
