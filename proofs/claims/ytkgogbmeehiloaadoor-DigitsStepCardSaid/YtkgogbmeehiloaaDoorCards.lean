/-
  DERIVED. GIVEN WITH THE SEED: THE CARDS: each row of YtkgogbmeehiloaaDoorRows.lean that lists a variable, with what it lists TIED to the program's text (the seventh form; the later family's looks); each row that meets fmt, with fmt's text TOLD by the authors' own Lean function (tested against real Go, not proved from fmt's source: count such statements apart). THE CARD IS WHAT COUNTS. Prove the row's statement (the work); the ties are given (YtkgogbmeehiloaaDoorTie.lean); close each card by the builder's one call (the guide's Derived/Test/ToyasCard.lean, 'card_holds'). Laid BY PROGRAM, IN A SANDBOX (cutbox-door.mjs). By AI agents, Wed Nov 11 2026. No macro, syntax, notation, axiom, sorry.
-/
import Derived.Test.YtkgogbmeehiloaaDoorRows
import GoSem.ClaimSeven
namespace Go.Proofs.YtkgogbmeehiloaaDoor
namespace Rows

/-- THE TIED CARD OF 'ogeelaw03.DigitsBack'. -/
def digitsBackCard : Claim7 := { stood := { row := digitsBackRow, standIns := [], harness := (true, "5db4f4e73a57c5babc7228c7cf30558c8614f868bf79e815887fa90e92179db1"), looks := false }, kinds := [], alts := [], laidByText := true, laidKinds := [.data, .data, .data, .data, .pinned], laidTests := true, laidLooks := .later }
def DigitsBackCardSaid : Prop := Claim7.holds Tryd.pinned (.plain (OpenSpec.ofChange digitsBackSpec)) digitsBackCard

/-- THE TIED CARD OF 'ogeelaw03.DigitsStep'. -/
def digitsStepCard : Claim7 := { stood := { row := digitsStepRow, standIns := [], harness := (true, "5db4f4e73a57c5babc7228c7cf30558c8614f868bf79e815887fa90e92179db1"), looks := false }, kinds := [], alts := [], laidByText := true, laidKinds := [.data, .data, .data, .data, .pinned], laidTests := true, laidLooks := .later }
def DigitsStepCardSaid : Prop := Claim7.holds Tryd.pinned (.plain (OpenSpec.ofChange digitsStepSpec)) digitsStepCard

/-- THE SECOND FORM's CARD OF 'ogeelaw03.DigitsBack'. -/
def digitsBackUptoCard : Claim7 := { stood := { row := digitsBackUptoRow, standIns := [], harness := (true, "5db4f4e73a57c5babc7228c7cf30558c8614f868bf79e815887fa90e92179db1"), looks := false }, kinds := [], alts := [], laidByText := true, laidKinds := [.data, .data, .data, .data, .pinned], laidTests := true, laidLooks := .later }
def DigitsBackUptoCardSaid : Prop := Claim7.holds Tryd.pinned (.plain (OpenSpec.upto digitsBackSpec)) digitsBackUptoCard

/-- THE SECOND FORM's CARD OF 'ogeelaw03.DigitsStep'. -/
def digitsStepUptoCard : Claim7 := { stood := { row := digitsStepUptoRow, standIns := [], harness := (true, "5db4f4e73a57c5babc7228c7cf30558c8614f868bf79e815887fa90e92179db1"), looks := false }, kinds := [], alts := [], laidByText := true, laidKinds := [.data, .data, .data, .data, .pinned], laidTests := true, laidLooks := .later }
def DigitsStepUptoCardSaid : Prop := Claim7.holds Tryd.pinned (.plain (OpenSpec.upto digitsStepSpec)) digitsStepUptoCard
end Rows
end Go.Proofs.YtkgogbmeehiloaaDoor
