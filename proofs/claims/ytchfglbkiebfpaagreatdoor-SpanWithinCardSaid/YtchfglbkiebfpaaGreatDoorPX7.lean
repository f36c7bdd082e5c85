/- The walks and plain laws beneath the statements. -/
import Derived.Test.YtchfglbkiebfpaaGreatDoorPX3
import Derived.Test.YtchfglbkiebfpaaGreatDoorPX6
namespace Go.Proofs.YtchfglbkiebfpaaGreatDoor
open Go Go.RowKit

def vN (x : Dyadic) : Value := .agg #[.bool (neg (dm x)), .string (mag (dm x)), .int .i64 (de x)]
def vS (x y : Dyadic) : Value := .agg #[.bool (neg (dm x)), .string (mag (dm x)), .int .i64 (de x), .bool (neg (dm y)), .string (mag (dm y)), .int .i64 (de y)]
def rN (b : Bool) (s : ByteArray) (e : Int) : Value := .agg #[.bool b, .string s, .int .i64 e]
def rS (b : Bool) (s : ByteArray) (e : Int) (c : Bool) (t : ByteArray) (f : Int) : Value := .agg #[.bool b, .string s, .int .i64 e, .bool c, .string t, .int .i64 f]
abbrev Tab0 (w : World) : Prop := TabAt 0 Lib.deBruijn64tab w
/-- A contract, off one that wants the table. -/
theorem rt {w0 : World} {f : FuncId} {args : Array Value} {R : Value} (hT : Tab0 w0) (he : Enters Tryz.prog f) (h : ∀ W, Tab0 W → Calls Tryz.prog f args W fun e w' => e = .returned R ∧ Below W.heap.size W w') : RetAt Tryz.prog w0 f args R := ⟨he, fun W hb => h W (tab_keep hT hb)⟩
theorem rg1 {w0 : World} {f : FuncId} {t : TypeId} {cs : Array Value} {args : Nat → Array Value} {R : Value} (hT : Tab0 w0) (he : Enters Tryz.prog f) (h : ∀ W g, Tab0 W → Bx W g t cs → Calls Tryz.prog f (args g) W fun e w' => e = .returned R ∧ Below W.heap.size W w') : Enters Tryz.prog f ∧ ∀ W, Below w0.heap.size w0 W → ∀ g, Bx W g t cs → Calls Tryz.prog f (args g) W fun e w' => e = .returned R ∧ Below W.heap.size W w' := ⟨he, fun W hb g hx => h W g (tab_keep hT hb) hx⟩
theorem rg0 (w0 : World) {f : FuncId} {t : TypeId} {cs : Array Value} {args : Nat → Array Value} {R : Value} (he : Enters Tryz.prog f) (h : ∀ W g, Bx W g t cs → Calls Tryz.prog f (args g) W fun e w' => e = .returned R ∧ Below W.heap.size W w') : Enters Tryz.prog f ∧ ∀ W, Below w0.heap.size w0 W → ∀ g, Bx W g t cs → Calls Tryz.prog f (args g) W fun e w' => e = .returned R ∧ Below W.heap.size W w' := ⟨he, fun W _ g hx => h W g hx⟩
/-- A contract that wants a block of an outer caller's. -/
theorem rb {w0 : World} {f : FuncId} {g : Nat} {t : TypeId} {cs args : Array Value} {R : Value} (hT : Tab0 w0) (hP : Bx w0 g t cs) (he : Enters Tryz.prog f) (h : ∀ W, Tab0 W → Bx W g t cs → Calls Tryz.prog f args W fun e w' => e = .returned R ∧ Below W.heap.size W w') : RetAt Tryz.prog w0 f args R := ⟨he, fun W hb => h W (tab_keep hT hb) (hP.later hb)⟩
set_option maxRecDepth 100000 in
theorem num_eql (W : World) (x y : Operand) (a b : Bool) (s t : ByteArray) (e f : Int) : RunOk Tryz.prog W (do eqGuard .eql 25 x y (rN a s e) (rN b t f); binOp .eql 25 (rN a s e) (rN b t f)) (.bool ((a == b && s.toList == t.toList) && e == f)) := fun W' _ => by
  unfold rN
  simp [go_sem]
  by_cases h1 : a = b <;> by_cases h2 : s.toList = t.toList <;> by_cases h3 : e = f <;> simp [h1, h2, h3]
set_option maxRecDepth 100000 in
theorem num_neq (W : World) (x y : Operand) (a b : Bool) (s t : ByteArray) (e f : Int) : RunOk Tryz.prog W (do eqGuard .neq 25 x y (rN a s e) (rN b t f); binOp .neq 25 (rN a s e) (rN b t f)) (.bool (!((a == b && s.toList == t.toList) && e == f))) := fun W' _ => by
  unfold rN
  simp [go_sem]
  by_cases h1 : a = b <;> by_cases h2 : s.toList = t.toList <;> by_cases h3 : e = f <;> simp [h1, h2, h3]
set_option maxRecDepth 100000 in
theorem span_eql1 (W : World) (x y : Operand) (a b : Bool) (s t : ByteArray) (e f : Int) : RunOk Tryz.prog W (do eqGuard .eql 27 x y (rS a s e b t f) (rS a s e b t f); binOp .eql 27 (rS a s e b t f) (rS a s e b t f)) (.bool true) := fun W' _ => by
  unfold rS
  simp [go_sem]
set_option maxRecDepth 100000 in
theorem span_neq1 (W : World) (x y : Operand) (a b : Bool) (s t : ByteArray) (e f : Int) : RunOk Tryz.prog W (do eqGuard .neq 27 x y (rS a s e b t f) (rS a s e b t f); binOp .neq 27 (rS a s e b t f) (rS a s e b t f)) (.bool false) := fun W' _ => by
  unfold rS
  simp [go_sem]
set_option maxRecDepth 100000 in
theorem num_neq1 (W : World) (x y : Operand) (a : Bool) (s : ByteArray) (e : Int) : RunOk Tryz.prog W (do eqGuard .neq 25 x y (rN a s e) (rN a s e); binOp .neq 25 (rN a s e) (rN a s e)) (.bool false) := fun W' _ => by
  unfold rN
  simp [go_sem]
set_option maxRecDepth 100000 in
theorem bool_eql (W : World) (x y : Operand) (a b : Bool) : RunOk Tryz.prog W (do eqGuard .eql 4 x y (.bool a) (.bool b); binOp .eql 4 (.bool a) (.bool b)) (.bool (a == b)) := fun W' _ => by
  simp [go_sem]
end Go.Proofs.YtchfglbkiebfpaaGreatDoor

