/- The walks and plain laws beneath the statements. -/
import Derived.Test.YtkgogbmeehiloaaGreatDoorPK15
import Derived.Test.YtkgogbmeehiloaaGreatDoorPK17
import Derived.Test.YtkgogbmeehiloaaGreatDoorPK19
import Derived.Test.YtkgogbmeehiloaaGreatDoorPK22
namespace Go.Proofs.YtkgogbmeehiloaaGreatDoor
open Go.RowKit Go.Lib

theorem byt_drop (s : ByteArray) (f k : Nat) : ((s.data.toList.drop f).getD k 0).toNat = byt s (f + k) := by
  unfold byt
  rw [List.getD, List.getD, List.getElem?_drop]
theorem bad_lo {s : ByteArray} {f k : Nat} (h : byt s (f + k) < 48) : badB (s.data.toList.drop f) k = true := by
  unfold badB isDig
  have : ¬ 48 ≤ ((s.data.toList.drop f).getD k 0).toNat := by rw [byt_drop]; omega
  rw [decide_eq_false this]; rfl
/-- With and without a sign. -/
def headAt (s : ByteArray) (f : Nat) : Prop := (f = 1 ∧ 0 < s.size ∧ byt s 0 = 45) ∨ (f = 0 ∧ (s.size = 0 ∨ byt s 0 ≠ 45))
theorem list_cons (s : ByteArray) (h : 0 < s.size) : ∃ c l, s.data.toList = c :: l ∧ c.toNat = byt s 0 := by
  have h' : 0 < s.data.toList.length := by simpa using h
  cases e : s.data.toList with
  | nil => rw [e] at h'; cases h'
  | cons c l => refine ⟨c, l, rfl, ?_⟩; unfold byt; rw [e]; rfl
end Go.Proofs.YtkgogbmeehiloaaGreatDoor

