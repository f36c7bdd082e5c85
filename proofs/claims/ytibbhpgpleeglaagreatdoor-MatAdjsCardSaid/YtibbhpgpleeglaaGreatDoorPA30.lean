/- The walks and plain laws beneath the statements. -/
import Derived.Test.YtibbhpgpleeglaaGreatDoorPA14
import Derived.Test.YtibbhpgpleeglaaGreatDoorPA28
import Derived.Test.YtibbhpgpleeglaaGreatDoorPA29
namespace Go.Proofs.YtibbhpgpleeglaaGreatDoor
open Go.RowKit

theorem rdSign_vn {L T0 : Nat} {x : Dyadic} (d1 : DB L T0 x) (hLT : L + T0 ≤ 4000000) :
    Hid (∀ W : World, Calls Tryz.prog 60 #[.agg #[.bool (neg (dm (x))), .string (mag (dm (x))), .int .i64 (de (x))]] W fun r w' => r = .returned (.int .i64 (dsgn x)) ∧ Below W.heap.size W w') := by
  have h1 := db_size d1
  have h := Lib.hid (fun W => rdSign_any (mag (dm x)) (neg (dm x)) (de x) W (by omega))
  rw [ival_mk, dy_dm] at h
  exact h
theorem rdForm_nd {b : Bool} {s : ByteArray} {e : Int} {x : Dyadic} (n1 : ND b s e x) :
    Hid (∀ W : World, Calls Tryz.prog 59 #[.agg #[.bool b, .string s, .int .i64 e]] W fun r w' => r = .returned (.agg #[.bool (neg (dm (x))), .string (mag (dm (x))), .int .i64 (de (x))]) ∧ Below W.heap.size W w') := by
  have h := Lib.hid (fun W => rdForm_any s b e W (Nat.le_trans n1.size (by decide)) n1.lo (by have := n1.hi; omega))
  rw [n1.val] at h
  exact h
theorem plus_parts {L T0 : Nat} {x y : Dyadic} (d1 : DB L T0 x) (d2 : DB L T0 y) (hLT : L + T0 ≤ 4000000) (hge : de y ≤ de x) :
    ∃ d m q : Int, IntKind.i64.wrap (de x - de y) = d ∧ Hid (∀ W : World, Calls Tryz.prog 62 #[.agg #[.bool (neg (dm (x))), .string (mag (dm (x)))], .int .i64 d] W fun r w' => r = .returned (.agg #[.bool (neg m), .string (mag m)]) ∧ Below W.heap.size W w') ∧
      Hid (∀ W : World, Calls Tryz.prog 61 #[.agg #[.bool (neg m), .string (mag m)], .agg #[.bool (neg (dm (y))), .string (mag (dm (y)))]] W fun r w' => r = .returned (.agg #[.bool (neg q), .string (mag q)]) ∧ Below W.heap.size W w') ∧
      Hid (∀ W : World, Calls Tryz.prog 43 #[.agg #[.bool (neg q), .string (mag q)], .int .i64 (de y)] W fun r w' => r = .returned (.agg #[.bool (neg (dm (x + y))), .string (mag (dm (x + y))), .int .i64 (de (x + y))]) ∧ Below W.heap.size W w') := by
  have f1 := db_form d1
  have f2 := db_form d2
  have s1 := db_size d1
  have s2 := db_size d2
  have hsh : shiftI (dm x) (de x - de y) = dm x * 2 ^ (de x - de y).toNat := by unfold shiftI; rw [if_pos (by omega)]
  have bm : bsz (dm x * 2 ^ (de x - de y).toNat) ≤ 1100000 := by
    rw [mag_size] at s1
    exact Nat.le_trans (bsz_shl_le s1) (by omega)
  have by' : bsz (dm y) ≤ 1100000 := by rw [mag_size] at s2; omega
  have bq := bsz_add_le bm by'
  refine ⟨de x - de y, dm x * 2 ^ (de x - de y).toNat, dm x * 2 ^ (de x - de y).toNat + dm y, IntWalk.i64_in _ (by omega), ?_, ?_, ?_⟩
  · have h := Lib.hid (fun W => rShift_any (mag (dm x)) (neg (dm x)) (de x - de y) W (by omega) (by omega))
    rw [ival_mk, hsh] at h
    exact h
  · have h := Lib.hid (fun W => rPlusW_any (mag (dm x * 2 ^ (de x - de y).toNat)) (mag (dm y)) (neg (dm x * 2 ^ (de x - de y).toNat)) (neg (dm y)) W (by rw [mag_size]; omega) (by omega))
    rw [ival_mk, ival_mk] at h
    exact h
  · have h := Lib.hid (fun W => rMake_any (mag (dm x * 2 ^ (de x - de y).toNat + dm y)) (neg (dm x * 2 ^ (de x - de y).toNat + dm y)) (de y) W (by rw [mag_size]; omega) (by omega) (by omega))
    rw [ival_mk, ← dy_add, dy_shl, dy_dm] at h
    have e1 : de y + ((de x - de y).toNat : Int) = de x := by omega
    rw [e1, dy_dm] at h
    exact h
theorem rdPlus_any {b c : Bool} {s t : ByteArray} {e f : Int} {x y : Dyadic} {L T0 : Nat} (w : World) (n1 : ND b s e x) (n2 : ND c t f y) (d1 : DB L T0 x) (d2 : DB L T0 y) (hLT : L + T0 ≤ 4000000) :
    Calls Tryz.prog 37 #[.agg #[.bool b, .string s, .int .i64 e], .agg #[.bool c, .string t, .int .i64 f]] w fun r w' => r = .returned (.agg #[.bool (neg (dm (x + y))), .string (mag (dm (x + y))), .int .i64 (de (x + y))]) ∧ Below w.heap.size w w' := by
  have cF := rdForm_nd n1
  have cG := rdForm_nd n2
  have cS := rdSign_vn d1 hLT
  have cT := rdSign_vn d2 hLT
  by_cases hx : x = 0
  · subst hx
    rw [Dyadic.zero_add]
    exact rdPlus_zx s t b c e f _ _ _ (dsgn_eq.2 rfl) w cF cG cS
  · have hsx : ¬ dsgn x = 0 := fun h => hx (dsgn_eq.1 h)
    by_cases hy : y = 0
    · subst hy
      rw [Dyadic.add_zero]
      exact rdPlus_zy s t b c e f _ _ _ _ hsx (dsgn_eq.2 rfl) w cF cG cS cT
    · have hsy : ¬ dsgn y = 0 := fun h => hy (dsgn_eq.1 h)
      by_cases hlt : de x < de y
      · obtain ⟨d, m, q, hw, cH, cP, cM⟩ := plus_parts d2 d1 hLT (by omega)
        rw [Dyadic.add_comm x y]
        exact rdPlus_lt s t b c e f x y _ _ d m q _ hsx hsy hlt hw w cF cG cS cT cH cP cM
      · obtain ⟨d, m, q, hw, cH, cP, cM⟩ := plus_parts d1 d2 hLT (by omega)
        exact rdPlus_ge s t b c e f x y _ _ d m q _ hsx hsy hlt hw w cF cG cS cT cH cP cM

end Go.Proofs.YtibbhpgpleeglaaGreatDoor

