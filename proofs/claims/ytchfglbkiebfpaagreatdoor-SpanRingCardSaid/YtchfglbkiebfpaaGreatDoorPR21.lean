/- The walks and plain laws beneath the statements. -/
import Derived.Test.YtchfglbkiebfpaaGreatDoorPR20
namespace Go.Proofs.YtchfglbkiebfpaaGreatDoor
open Go

theorem dmin_le (x y : Dyadic) : dmin x y ≤ x ∧ dmin x y ≤ y ∧ x ≤ dmax x y ∧ y ≤ dmax x y ∧ dmin x y ≤ dmax x y := by
  unfold dmin dmax; refine ⟨?_, ?_, ?_, ?_, ?_⟩ <;> grind
theorem hasB_iff (x y a : Dyadic) : hasB x y a = true ↔ dmin x y ≤ a ∧ a ≤ dmax x y := by
  have key : ∀ u v : Dyadic, dsgn (u - v) ≤ 0 ↔ u ≤ v := fun u v => by
    constructor
    · intro h
      have h1 : ¬ 0 < u - v := fun h2 => by have := dsgn_gt.2 h2; omega
      grind
    · intro h
      refine Int.not_lt.1 fun h2 => ?_
      have := dsgn_gt.1 h2
      grind
  unfold hasB
  rw [Bool.and_eq_true, decide_eq_true_eq, decide_eq_true_eq, key, key]
/-- Between two numbers, whichever is the lesser one. -/
def btw (u v t : Dyadic) : Prop := dmin u v ≤ t ∧ t ≤ dmax u v
/-- The upper end on the grid. -/
def quoU (x y : Dyadic) (p : Int) : Dyadic := -quoD (-x) y p
end Go.Proofs.YtchfglbkiebfpaaGreatDoor

