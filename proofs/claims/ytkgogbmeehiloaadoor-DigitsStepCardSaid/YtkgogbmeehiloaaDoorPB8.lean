/- The walks and plain laws beneath the statements. -/
import Derived.Test.YtkgogbmeehiloaaDoorPB4
import Derived.Test.YtkgogbmeehiloaaDoorPB7
namespace Go.Proofs.YtkgogbmeehiloaaDoor
open Go Go.RowKit

def vI (m : Int) : Value := .agg #[.bool (neg m), .string (mag m)]
abbrev Tab0 (w : World) : Prop := TabAt 5 Lib.deBruijn64tab w
theorem rg0 (w0 : World) {f : FuncId} {t : TypeId} {cs : Array Value} {args : Nat → Array Value} {R : Value} (he : Enters Tryd.prog f) (h : ∀ W g, Bx W g t cs → Calls Tryd.prog f (args g) W fun e w' => e = .returned R ∧ Below W.heap.size W w') : Enters Tryd.prog f ∧ ∀ W, Below w0.heap.size w0 W → ∀ g, Bx W g t cs → Calls Tryd.prog f (args g) W fun e w' => e = .returned R ∧ Below W.heap.size W w' := ⟨he, fun W _ g hx => h W g hx⟩
/-- A contract that wants a block of an outer caller's. -/
theorem rb {w0 : World} {f : FuncId} {g : Nat} {t : TypeId} {cs args : Array Value} {R : Value} (hT : Tab0 w0) (hP : Bx w0 g t cs) (he : Enters Tryd.prog f) (h : ∀ W, Tab0 W → Bx W g t cs → Calls Tryd.prog f args W fun e w' => e = .returned R ∧ Below W.heap.size W w') : RetAt Tryd.prog w0 f args R := ⟨he, fun W hb => h W (tab_keep hT hb) (hP.later hb)⟩
end Go.Proofs.YtkgogbmeehiloaaDoor

