/- The walks and plain laws beneath the statements. -/
import Derived.Test.YtchfglbkiebfpaaGreatDoorPR27
import Derived.Test.YtchfglbkiebfpaaGreatDoorPR28
namespace Go.Proofs.YtchfglbkiebfpaaGreatDoor
open Go.RowKit

theorem far2_no {w : World} {g : Nat} {b c b' c' : Bool} {s t s' t' : ByteArray} {e f e' f' : Int} (h : ((okN s e ∧ okN t f) ∧ (okN s' e' ∧ okN t' f'))) (hx : Bx w g 27 #[.bool b, .string s, .int .i64 e, .bool c, .string t, .int .i64 f, .bool b', .string s', .int .i64 e', .bool c', .string t', .int .i64 f']) :
    Calls Tryz.prog 14 #[.slice (some ⟨g, 0, none⟩) 2 2] w fun r w' => r = .returned (.bool false) ∧ Below w.heap.size w w' := by
  exact far_no _ 2 2 _ _ _ _ _ _ w (by decide) (fun j _ => if h0 : j = 0 then (by simp only [h0, if_true]; exact h.1) else (by simp only [h0, if_false]; exact h.2)) (rdS2B hx)

theorem far2_yes {w : World} {g : Nat} {b c b' c' : Bool} {s t s' t' : ByteArray} {e f e' f' : Int} (h : ¬ ((okN s e ∧ okN t f) ∧ (okN s' e' ∧ okN t' f'))) (hx : Bx w g 27 #[.bool b, .string s, .int .i64 e, .bool c, .string t, .int .i64 f, .bool b', .string s', .int .i64 e', .bool c', .string t', .int .i64 f']) :
    Calls Tryz.prog 14 #[.slice (some ⟨g, 0, none⟩) 2 2] w fun r w' => r = .returned (.bool true) ∧ Below w.heap.size w w' := by
  by_cases h0 : okN s e ∧ okN t f
  · exact far_yes _ 2 2 _ _ _ _ _ _ w (by decide) 1 (by decide) (fun h2 => h ⟨h0, h2⟩) (rdS2B hx)
  · exact far_yes _ 2 2 _ _ _ _ _ _ w (by decide) 0 (by decide) h0 (rdS2B hx)

theorem nd_ok {b : Bool} {s : ByteArray} {e : Int} (h : okN s e) : ND b s e (dy (ival b (sval s)) e) := ⟨rfl, Nat.le_trans h.1 (by decide), by have := h.2.1; omega, by have := h.2.2; omega⟩
theorem ival_lt {b : Bool} {s : ByteArray} {k : Nat} (h : s.size ≤ k) : (ival b (sval s)).natAbs < 2 ^ (8 * k) := by
  rw [ival_natAbs, Nat.pow_mul]
  exact Nat.lt_of_lt_of_le (sval_lt s) (Nat.pow_le_pow_right (by decide) h)
theorem db_ok {b : Bool} {s : ByteArray} {e : Int} (h : okN s e) : DB 300 620 (dy (ival b (sval s)) e) := db_raw (S := 8 * 40) (ival_lt (k := 40) h.1) (by have := h.2.1; omega) (by have := h.2.2; omega)
theorem RdS.below {w w' : World} {A : Option Addr} {n : Nat} {bs cs : Nat → Bool} {ss ts : Nat → ByteArray} {es fs : Nat → Int} (h : RdS w A n bs ss es cs ts fs) (hb : Below w.heap.size w w') : RdS w' A n bs ss es cs ts fs := fun h0 => by
  obtain ⟨b, off, rfl, hc⟩ := h h0
  exact ⟨b, off, rfl, fun j hj => by
    obtain ⟨c1, c2, c3, c4, c5, c6⟩ := hc j hj
    exact ⟨cell_later hb c1, cell_later hb c2, cell_later hb c3, cell_later hb c4, cell_later hb c5, cell_later hb c6⟩⟩
/-- A row's elements, and nothing behind it. -/
def cut {α : Type} (n : Nat) (f : Nat → α) (d : α) (j : Nat) : α := if j < n then f j else d
theorem RdS.cut {w : World} {A : Option Addr} {n : Nat} {bs cs : Nat → Bool} {ss ts : Nat → ByteArray} {es fs : Nat → Int} (h : RdS w A n bs ss es cs ts fs) : RdS w A n bs (cut n ss ⟨#[]⟩) (cut n es 0) cs (cut n ts ⟨#[]⟩) (cut n fs 0) := fun h0 => by
  obtain ⟨b, off, rfl, hc⟩ := h h0
  exact ⟨b, off, rfl, fun j hj => by unfold Go.Proofs.YtchfglbkiebfpaaGreatDoor.cut; simp only [hj, if_true]; exact hc j hj⟩
theorem RdN.cut {w : World} {A : Option Addr} {n : Nat} {bs : Nat → Bool} {ss : Nat → ByteArray} {es : Nat → Int} (h : RdN w A n bs ss es) : RdN w A n bs (cut n ss ⟨#[]⟩) (cut n es 0) := fun h0 => by
  obtain ⟨b, off, rfl, hc⟩ := h h0
  exact ⟨b, off, rfl, fun j hj => by unfold Go.Proofs.YtchfglbkiebfpaaGreatDoor.cut; simp only [hj, if_true]; exact hc j hj⟩
theorem ok_cut {n : Nat} {ss : Nat → ByteArray} {es : Nat → Int} (h : ∀ j, j < n → okN (ss j) (es j)) (j : Nat) : okN (cut n ss ⟨#[]⟩ j) (cut n es 0 j) := by
  unfold cut
  by_cases hj : j < n
  · simp only [hj, if_true]; exact h j hj
  · simp only [hj, if_false]; exact ⟨by decide, by decide, by decide⟩

end Go.Proofs.YtchfglbkiebfpaaGreatDoor

