/- The walks and plain laws beneath the statements. -/
import Derived.Test.YtkgogbmeehiloaaDoorPB1
import Derived.Laws.AppendOwnNone
namespace Go.Proofs.YtkgogbmeehiloaaDoor
open Go.RowKit

theorem OwnR.one (w : World) (base : Nat) (e : TypeId) (u : Value) (hb : base ≤ w.heap.size) : OwnR (w.alloc (.cells #[u] e)) base e (.slice (some ⟨w.heap.size, 0, none⟩) 1 1) 1 (fun _ => u) :=
  ⟨by simp, .inr ⟨w.heap.size, 1, #[u], rfl, hb, heap_alloc_new w _, Nat.le_refl _, by unfold maxLen; omega, rfl, rfl⟩⟩


end Go.Proofs.YtkgogbmeehiloaaDoor

