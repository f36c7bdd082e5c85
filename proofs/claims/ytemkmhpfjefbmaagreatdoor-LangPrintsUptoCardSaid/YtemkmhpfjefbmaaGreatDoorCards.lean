/-
  DERIVED. GIVEN WITH THE SEED: THE CARDS: each row of YtemkmhpfjefbmaaGreatDoorRows.lean that lists a variable, with what it lists TIED to the program's text (the seventh form; the later family's looks); each row that meets fmt, with fmt's text TOLD by the authors' own Lean function (tested against real Go, not proved from fmt's source: count such statements apart). THE CARD IS WHAT COUNTS. Prove the row's statement (the work); the ties are given (YtemkmhpfjefbmaaGreatDoorTie.lean); close each card by the builder's one call (the guide's Derived/Test/ToyasCard.lean, 'card_holds'). Laid BY PROGRAM, IN A SANDBOX (cutbox-door.mjs). By AI agents, Wed Nov 11 2026. No macro, syntax, notation, axiom, sorry.
-/
import Derived.Test.YtemkmhpfjefbmaaGreatDoorRows
import GoSem.ClaimSeven
namespace Go.Proofs.YtemkmhpfjefbmaaGreatDoor
namespace Rows

/-- THE TIED CARD OF 'ogeelaw29.LangPrints'. -/
def langPrintsCard : Claim7 := { stood := { row := langPrintsRow, standIns := [], harness := (true, "0aafc2bab1640d2acf6f888f6d30c845ec4569131f9fcb630f0a1ed75649e58c"), looks := true }, kinds := [], alts := [], laidByText := true, laidKinds := [.data, .data, .data, .data, .sentinel, .sentinel, .pinned], laidTests := true, laidLooks := .later }
def LangPrintsCardSaid : Prop := Claim7.holds Tryz.pinned (.plain (OpenSpec.ofChange langPrintsSpec)) langPrintsCard

/-- THE SECOND FORM's CARD OF 'ogeelaw29.LangPrints'. -/
def langPrintsUptoCard : Claim7 := { stood := { row := langPrintsUptoRow, standIns := [], harness := (true, "0aafc2bab1640d2acf6f888f6d30c845ec4569131f9fcb630f0a1ed75649e58c"), looks := true }, kinds := [], alts := [], laidByText := true, laidKinds := [.data, .data, .data, .data, .sentinel, .sentinel, .pinned], laidTests := true, laidLooks := .later }
def LangPrintsUptoCardSaid : Prop := Claim7.holds Tryz.pinned (.plain (OpenSpec.upto langPrintsSpec)) langPrintsUptoCard
end Rows
end Go.Proofs.YtemkmhpfjefbmaaGreatDoor
