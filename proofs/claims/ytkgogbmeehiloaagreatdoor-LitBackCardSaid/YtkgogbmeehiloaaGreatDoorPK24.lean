/- The walks and plain laws beneath the statements. -/
import Derived.Test.YtkgogbmeehiloaaGreatDoorPK8
import Derived.Test.YtkgogbmeehiloaaGreatDoorPK23
import Derived.Test.YtkgogbmeehiloaaGreatDoorPK22
namespace Go.Proofs.YtkgogbmeehiloaaGreatDoor
open Go Go.RowKit

theorem str_add (W : World) (x y : Operand) (a b : ByteArray) (hs : a.size + b.size ≤ 9223372036854775807) : RunOk Tryz.prog W (do eqGuard .add 9 x y (.string a) (.string b); binOp .add 9 (.string a) (.string b)) (.string (a ++ b)) := fun W' _ => by
  have h : ¬ 9223372036854775807 < a.size + b.size := by omega
  simp [go_sem, h]
theorem str_idx (W : World) (s : ByteArray) (i : Nat) (h : i < s.size) : RunOk Tryz.prog W (Instr.index 9 (.string s) (.int .i64 (i : Int))) (.int .u8 (byt s i : Nat)) := fun W' _ => run_idx s Tryz.underlying9 i h W'
/-- A contract, off one that wants the table of powers of ten. -/
theorem rt10 {w0 : World} {f : FuncId} {args : Array Value} {R : Value} (hT : Tab10 w0) (he : Enters Tryz.prog f) (h : ∀ W, Tab10 W → Calls Tryz.prog f args W fun e w' => e = .returned R ∧ Below W.heap.size W w') : RetAt Tryz.prog w0 f args R := ⟨he, fun W hb => h W (hT.later hb)⟩
theorem wnat1 {n : Nat} (h : n ≤ 1099511627776) : IntKind.i64.wrap ((n : Int) + 1) = ((n + 1 : Nat) : Int) := by rw [IntWalk.i64_in _ (by omega)]; omega
end Go.Proofs.YtkgogbmeehiloaaGreatDoor

namespace Go.Proofs.YtkgogbmeehiloaaGreatDoor
open Go Go.RowKit

theorem bl {s : ByteArray} {f k : Nat} (h : decide ((byt s (f + k) : Int) < 48) = true) : badB (s.data.toList.drop f) k = true := bad_lo (by have := of_decide_eq_true h; omega)
theorem bey {a b : Int} (h : (a == b) = true) : a = b := by simpa using h
theorem ben {a b : Int} (h : (a == b) = false) : a ≠ b := by simpa using h
theorem hd1 {s : ByteArray} (h : decide ((s.size : Int) > 0) = true) (h2 : ((byt s 0 : Int) == 45) = true) : headAt s 1 := .inl ⟨rfl, by have := of_decide_eq_true h; omega, by have := bey h2; omega⟩
theorem hd0 {s : ByteArray} (h2 : ((byt s 0 : Int) == 45) = false) : headAt s 0 := .inr ⟨rfl, .inr (by have := ben h2; omega)⟩
end Go.Proofs.YtkgogbmeehiloaaGreatDoor

