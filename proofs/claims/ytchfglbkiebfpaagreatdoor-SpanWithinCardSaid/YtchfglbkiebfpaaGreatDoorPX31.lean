/- The walks and plain laws beneath the statements. -/
import Derived.Test.YtchfglbkiebfpaaGreatDoorPX24
import Derived.Test.YtchfglbkiebfpaaGreatDoorPX23
namespace Go.Proofs.YtchfglbkiebfpaaGreatDoor

theorem has_of {lo hi a : Dyadic} (h1 : lo ≤ a) (h2 : a ≤ hi) : hasB lo hi a = true := by
  obtain ⟨h3, _, _, h4, _⟩ := dmin_le lo hi
  exact (hasB_iff _ _ _).2 ⟨by grind, by grind⟩
theorem has_btw {x y a : Dyadic} (h : btw x y a) : hasB x y a = true := (hasB_iff _ _ _).2 h
theorem btw_has {x y a : Dyadic} (h : hasB x y a = true) : btw x y a := (hasB_iff _ _ _).1 h
theorem has_add {x y x' y' a b : Dyadic} (h : btw x y a) (k : btw x' y' b) : hasB (dmin x y + dmin x' y') (dmax x y + dmax x' y') (a + b) = true := by
  obtain ⟨h1, h2⟩ := h
  obtain ⟨k1, k2⟩ := k
  exact has_of (by grind) (by grind)
theorem has_mul {x y x' y' a b : Dyadic} (h : btw x y a) (k : btw x' y' b) : hasB (dmin4 (x * x') (x * y') (y * x') (y * y')) (dmax4 (x * x') (x * y') (y * x') (y * y')) (a * b) = true := by
  obtain ⟨h1, h2⟩ := btw_prod h k
  exact has_of h1 h2
theorem four_le (x y u v : Dyadic) : dmin4 x y u v ≤ dmin x y ∧ dmax x y ≤ dmax4 x y u v ∧ dmin4 x y u v ≤ u ∧ u ≤ dmax4 x y u v ∧ dmin4 x y u v ≤ v ∧ v ≤ dmax4 x y u v := by
  unfold dmin4 dmax4
  obtain ⟨a1, a2, _, _, _⟩ := dmin_le (dmin (dmin x y) u) v
  obtain ⟨b1, b2, _, _, _⟩ := dmin_le (dmin x y) u
  obtain ⟨_, _, c1, c2, _⟩ := dmin_le (dmax (dmax x y) u) v
  obtain ⟨_, _, e1, e2, _⟩ := dmin_le (dmax x y) u
  exact ⟨by grind, by grind, by grind, by grind, by grind, by grind⟩
theorem has_hull {x y u v a : Dyadic} (h : btw x y a) : hasB (dmin4 x y u v) (dmax4 x y u v) a = true := by
  obtain ⟨h1, h2, _⟩ := four_le x y u v
  obtain ⟨h3, h4⟩ := h
  exact has_of (by grind) (by grind)
theorem zt {z : Bool} (h : ((bif z then (1 : Int) else 0) != 0) = true) : z = true := by cases z <;> simp_all
theorem zf {z : Bool} (h : ((bif z then (1 : Int) else 0) != 0) = false) : z = false := by cases z <;> simp_all
theorem db_bif {L T : Nat} {z : Bool} {x : Dyadic} (h : DB L T x) : DB L T (bif z then 0 else x) := by
  cases z
  · exact h
  · exact db_zero L T
theorem not_has {x y : Dyadic} (h : hasB x y 0 = false) : ¬ btw x y 0 := fun k => by rw [has_btw k] at h; cases h
theorem btw_ne {x y b : Dyadic} (h : hasB x y 0 = false) (k : btw x y b) : b ≠ 0 := fun e => not_has h (e ▸ k)
theorem has_quo {x y x' y' a b : Dyadic} (p : Int) (ha : btw x y a) (hb : btw x' y' b) {z : Bool} (h0 : hasB x' y' 0 = false) (hz : z = false) :
    hasB (bif z then 0 else dmin4 (quoD x x' p) (quoD x y' p) (quoD y x' p) (quoD y y' p)) (bif z then 0 else dmax4 (quoU x x' p) (quoU x y' p) (quoU y x' p) (quoU y y' p)) (quoD a b p) = true ∧
    hasB (bif z then 0 else dmin4 (quoD x x' p) (quoD x y' p) (quoD y x' p) (quoD y y' p)) (bif z then 0 else dmax4 (quoU x x' p) (quoU x y' p) (quoU y x' p) (quoU y y' p)) (quoU a b p) = true := by
  subst hz
  have hn := btw_ne h0 hb
  have h1 := quo_btw_lo p ha hb (not_has h0)
  have h2 := quo_btw_hi p ha hb (not_has h0)
  have h3 := quo_lo_hi (x := a) p hn
  show hasB (dmin4 _ _ _ _) (dmax4 _ _ _ _) _ = true ∧ hasB (dmin4 _ _ _ _) (dmax4 _ _ _ _) _ = true
  exact ⟨has_of h1 (by grind), has_of (by grind) h2⟩
end Go.Proofs.YtchfglbkiebfpaaGreatDoor

