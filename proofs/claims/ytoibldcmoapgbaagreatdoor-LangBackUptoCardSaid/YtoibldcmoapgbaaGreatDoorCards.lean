/-
  DERIVED. GIVEN WITH THE SEED: THE CARDS: each row of YtoibldcmoapgbaaGreatDoorRows.lean that lists a variable, with what it lists TIED to the program's text (the seventh form; the later family's looks); each row that meets fmt, with fmt's text TOLD by the authors' own Lean function (tested against real Go, not proved from fmt's source: count such statements apart). THE CARD IS WHAT COUNTS. Prove the row's statement (the work); the ties are given (YtoibldcmoapgbaaGreatDoorTie.lean); close each card by the builder's one call (the guide's Derived/Test/ToyasCard.lean, 'card_holds'). Laid BY PROGRAM, IN A SANDBOX (cutbox-door.mjs). By AI agents, Wed Nov 11 2026. No macro, syntax, notation, axiom, sorry.
-/
import Derived.Test.YtoibldcmoapgbaaGreatDoorRows
import GoSem.ClaimSeven
namespace Go.Proofs.YtoibldcmoapgbaaGreatDoor
namespace Rows

/-- THE TIED CARD OF 'ogeelaw29.LangBack'. -/
def langBackCard : Claim7 := { stood := { row := langBackRow, standIns := [], harness := (true, "b8823b63271d265f48a255becdec730f5919bea787bf57a67c40857f301ff09c"), looks := true }, kinds := [], alts := [], laidByText := true, laidKinds := [.data, .data, .data, .data, .sentinel, .sentinel, .pinned], laidTests := true, laidLooks := .later }
def LangBackCardSaid : Prop := Claim7.holds Tryz.pinned (.plain (OpenSpec.ofChange langBackSpec)) langBackCard

/-- THE TIED CARD OF 'ogeelaw29.LangNothing'. -/
def langNothingCard : Claim7 := { stood := { row := langNothingRow, standIns := [], harness := (true, "b8823b63271d265f48a255becdec730f5919bea787bf57a67c40857f301ff09c"), looks := true }, kinds := [], alts := [], laidByText := true, laidKinds := [.data, .data, .data, .data, .sentinel, .sentinel, .pinned], laidTests := true, laidLooks := .later }
def LangNothingCardSaid : Prop := Claim7.holds Tryz.pinned (.plain (OpenSpec.ofChange langNothingSpec)) langNothingCard

/-- THE SECOND FORM's CARD OF 'ogeelaw29.LangBack'. -/
def langBackUptoCard : Claim7 := { stood := { row := langBackUptoRow, standIns := [], harness := (true, "b8823b63271d265f48a255becdec730f5919bea787bf57a67c40857f301ff09c"), looks := true }, kinds := [], alts := [], laidByText := true, laidKinds := [.data, .data, .data, .data, .sentinel, .sentinel, .pinned], laidTests := true, laidLooks := .later }
def LangBackUptoCardSaid : Prop := Claim7.holds Tryz.pinned (.plain (OpenSpec.upto langBackSpec)) langBackUptoCard

/-- THE SECOND FORM's CARD OF 'ogeelaw29.LangNothing'. -/
def langNothingUptoCard : Claim7 := { stood := { row := langNothingUptoRow, standIns := [], harness := (true, "b8823b63271d265f48a255becdec730f5919bea787bf57a67c40857f301ff09c"), looks := true }, kinds := [], alts := [], laidByText := true, laidKinds := [.data, .data, .data, .data, .sentinel, .sentinel, .pinned], laidTests := true, laidLooks := .later }
def LangNothingUptoCardSaid : Prop := Claim7.holds Tryz.pinned (.plain (OpenSpec.upto langNothingSpec)) langNothingUptoCard
end Rows
end Go.Proofs.YtoibldcmoapgbaaGreatDoor
