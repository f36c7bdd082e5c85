/- The walks and plain laws beneath the statements. -/
import Derived.Test.YtkgogbmeehiloaaGreatDoorPK8
import Derived.Test.YtkgogbmeehiloaaGreatDoorPK14
import Derived.Test.YtkgogbmeehiloaaGreatDoorPK25
import Derived.Test.YtkgogbmeehiloaaGreatDoorPK1
namespace Go.Proofs.YtkgogbmeehiloaaGreatDoor
open Go.RowKit

/-- A []api.Num's first n elements. -/
def RdN (w : World) (A : Option Addr) (n : Nat) (bs : Nat → Bool) (ss : Nat → ByteArray) (es : Nat → Int) : Prop :=
  0 < n → ∃ b off, A = some ⟨b, off, none⟩ ∧ ∀ j, j < n → w.cell? ⟨b, off + j * 3, none⟩ = some (.bool (bs j)) ∧ w.cell? ⟨b, off + j * 3 + 1, none⟩ = some (.string (ss j)) ∧ w.cell? ⟨b, off + j * 3 + 2, none⟩ = some (.int .i64 (es j))
theorem RdN.below {w w' : World} {A : Option Addr} {n : Nat} {bs : Nat → Bool} {ss : Nat → ByteArray} {es : Nat → Int} (h : RdN w A n bs ss es) (hb : Below w.heap.size w w') : RdN w' A n bs ss es := fun h0 => by
  obtain ⟨b, off, e, hc⟩ := h h0
  exact ⟨b, off, e, fun j hj => ⟨cell_later hb (hc j hj).1, cell_later hb (hc j hj).2.1, cell_later hb (hc j hj).2.2⟩⟩
theorem RdN.congr {w : World} {A : Option Addr} {n : Nat} {bs : Nat → Bool} {ss ss' : Nat → ByteArray} {es es' : Nat → Int} (h : RdN w A n bs ss es) (hf : ∀ j, j < n → ss j = ss' j ∧ es j = es' j) : RdN w A n bs ss' es' := fun h0 => by
  obtain ⟨b, off, e, hc⟩ := h h0
  exact ⟨b, off, e, fun j hj => by rw [← (hf j hj).1, ← (hf j hj).2]; exact hc j hj⟩
end Go.Proofs.YtkgogbmeehiloaaGreatDoor

