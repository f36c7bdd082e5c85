/- The walks and plain laws beneath the statements. -/
import Derived.Test.YtibbhpgpleeglaaGreatDoorPA12
import Derived.Test.YtibbhpgpleeglaaGreatDoorPA6
import Derived.Test.YtibbhpgpleeglaaGreatDoorPA13
namespace Go.Proofs.YtibbhpgpleeglaaGreatDoor
open Go Go.RowKit

def vN (x : Dyadic) : Value := .agg #[.bool (neg (dm x)), .string (mag (dm x)), .int .i64 (de x)]
def rN (b : Bool) (s : ByteArray) (e : Int) : Value := .agg #[.bool b, .string s, .int .i64 e]
abbrev Tab0 (w : World) : Prop := TabAt 0 Lib.deBruijn64tab w
/-- A contract, off one that wants the table. -/
theorem rt {w0 : World} {f : FuncId} {args : Array Value} {R : Value} (hT : Tab0 w0) (he : Enters Tryz.prog f) (h : ∀ W, Tab0 W → Calls Tryz.prog f args W fun e w' => e = .returned R ∧ Below W.heap.size W w') : RetAt Tryz.prog w0 f args R := ⟨he, fun W hb => h W (tab_keep hT hb)⟩
/-- A contract that wants a block of an outer caller's. -/
theorem rb {w0 : World} {f : FuncId} {g : Nat} {t : TypeId} {cs args : Array Value} {R : Value} (hT : Tab0 w0) (hP : Bx w0 g t cs) (he : Enters Tryz.prog f) (h : ∀ W, Tab0 W → Bx W g t cs → Calls Tryz.prog f args W fun e w' => e = .returned R ∧ Below W.heap.size W w') : RetAt Tryz.prog w0 f args R := ⟨he, fun W hb => h W (tab_keep hT hb) (hP.later hb)⟩
set_option maxRecDepth 100000 in
theorem num_neq1 (W : World) (x y : Operand) (a : Bool) (s : ByteArray) (e : Int) : RunOk Tryz.prog W (do eqGuard .neq 29 x y (rN a s e) (rN a s e); binOp .neq 29 (rN a s e) (rN a s e)) (.bool false) := fun W' _ => by
  unfold rN
  simp [go_sem]
end Go.Proofs.YtibbhpgpleeglaaGreatDoor

