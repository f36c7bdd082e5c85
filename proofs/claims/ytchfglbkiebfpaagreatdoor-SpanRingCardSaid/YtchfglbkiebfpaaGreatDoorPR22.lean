/- The walks and plain laws beneath the statements. -/
import Derived.Test.YtchfglbkiebfpaaGreatDoorPR20
import Derived.Test.YtchfglbkiebfpaaGreatDoorPR21
namespace Go.Proofs.YtchfglbkiebfpaaGreatDoor
open Go.RowKit

theorem rsForm_any {b c : Bool} {s t : ByteArray} {e f : Int} {x y : Dyadic} {L T0 : Nat} (n1 : ND b s e x) (n2 : ND c t f y) (d1 : DB L T0 x) (d2 : DB L T0 y) (hLT : L + T0 ≤ 3000000) (w : World) :
    Calls Tryz.prog 41 #[.agg #[.bool b, .string s, .int .i64 e, .bool c, .string t, .int .i64 f]] w fun r w' => r = .returned (.agg #[.bool (neg (dm (dmin x y))), .string (mag (dm (dmin x y))), .int .i64 (de (dmin x y)), .bool (neg (dm (dmax x y))), .string (mag (dm (dmax x y))), .int .i64 (de (dmax x y))]) ∧ Below w.heap.size w w' := by
  by_cases hz : 0 < dsgn (x - y)
  · have h := dsgn_gt.1 hz
    rw [show dmin x y = y by unfold dmin; grind, show dmax x y = x by unfold dmax; grind]
    exact rsForm_gt _ _ _ _ _ _ _ _ _ _ _ _ _ hz w (Lib.hid fun W => rdCmp_any W n1 n2 d1 d2 hLT) (rdForm_nd n1) (rdForm_nd n2)
  · have h : ¬ 0 < x - y := fun h => hz (dsgn_gt.2 h)
    rw [show dmin x y = x by unfold dmin; grind, show dmax x y = y by unfold dmax; grind]
    exact rsForm_le _ _ _ _ _ _ _ _ _ _ _ _ _ hz w (Lib.hid fun W => rdCmp_any W n1 n2 d1 d2 hLT) (rdForm_nd n1) (rdForm_nd n2)

theorem rsPlus_any {b c : Bool} {s t : ByteArray} {e f : Int} {x y : Dyadic} {L T0 : Nat} {b' c' : Bool} {s' t' : ByteArray} {e' f' : Int} {x' y' : Dyadic} (n1 : ND b s e x) (n2 : ND c t f y) (d1 : DB L T0 x) (d2 : DB L T0 y) (m1 : ND b' s' e' x') (m2 : ND c' t' f' y') (k1 : DB L T0 x') (k2 : DB L T0 y') (hLT : L + T0 ≤ 2900000) (w : World) :
    Calls Tryz.prog 73 #[.agg #[.bool b, .string s, .int .i64 e, .bool c, .string t, .int .i64 f], .agg #[.bool b', .string s', .int .i64 e', .bool c', .string t', .int .i64 f']] w fun r w' => r = .returned (.agg #[.bool (neg (dm (dmin x y + dmin x' y'))), .string (mag (dm (dmin x y + dmin x' y'))), .int .i64 (de (dmin x y + dmin x' y')), .bool (neg (dm (dmax x y + dmax x' y'))), .string (mag (dm (dmax x y + dmax x' y'))), .int .i64 (de (dmax x y + dmax x' y'))]) ∧ Below w.heap.size w w' := by
  have i1 := db_dmin d1 d2
  have i2 := db_dmax d1 d2
  have j1 := db_dmin k1 k2
  have j2 := db_dmax k1 k2
  exact rsPlus_x _ _ _ _ _ _ _ _ _ _ _ _ _ _ _ _ _ _ _ _ _ _ _ _ _ _ _ _ _ _ w (Lib.hid fun W => rsForm_any n1 n2 d1 d2 (by omega) W) (Lib.hid fun W => rsForm_any m1 m2 k1 k2 (by omega) W) (Lib.hid fun W => rdPlus_any W (nd_db i1 (by omega)) (nd_db j1 (by omega)) i1 j1 (by omega)) (Lib.hid fun W => rdPlus_any W (nd_db i2 (by omega)) (nd_db j2 (by omega)) i2 j2 (by omega))

theorem rdNeg_vn {L T0 : Nat} {x : Dyadic} (d1 : DB L T0 x) (hLT : L + T0 ≤ 4000000) :
    Hid (∀ W : World, Calls Tryz.prog 75 #[.agg #[.bool (neg (dm (x))), .string (mag (dm (x))), .int .i64 (de (x))]] W fun r w' => r = .returned (.agg #[.bool (neg (dm (-x))), .string (mag (dm (-x))), .int .i64 (de (-x))]) ∧ Below W.heap.size W w') := by
  have n := nd_db d1 hLT
  have c := Lib.hid fun W => rdNeg_any (mag (dm x)) (neg (dm x)) (de x) W (Nat.le_trans n.size (by decide)) n.lo (by have := n.hi; omega)
  rw [ival_mk, dy_dm] at c
  exact c

theorem rsNeg_any {b c : Bool} {s t : ByteArray} {e f : Int} {x y : Dyadic} {L T0 : Nat} (n1 : ND b s e x) (n2 : ND c t f y) (d1 : DB L T0 x) (d2 : DB L T0 y) (hLT : L + T0 ≤ 2900000) (w : World) :
    Calls Tryz.prog 19 #[.agg #[.bool b, .string s, .int .i64 e, .bool c, .string t, .int .i64 f]] w fun r w' => r = .returned (.agg #[.bool (neg (dm (-dmax x y))), .string (mag (dm (-dmax x y))), .int .i64 (de (-dmax x y)), .bool (neg (dm (-dmin x y))), .string (mag (dm (-dmin x y))), .int .i64 (de (-dmin x y))]) ∧ Below w.heap.size w w' := by
  exact rsNeg_x _ _ _ _ _ _ _ _ _ _ _ _ _ _ _ _ _ _ w (Lib.hid fun W => rsForm_any n1 n2 d1 d2 (by omega) W) (rdNeg_vn (db_dmax d1 d2) (by omega)) (rdNeg_vn (db_dmin d1 d2) (by omega))

theorem rsOf_any (A : Option Addr) (n c : Nat) (bs : Nat → Bool) (ss : Nat → ByteArray) (es : Nat → Int) (xs : Nat → Dyadic) (L0 T0 : Nat) (w : World) (hn : n ≤ 1000000) (hnd : ∀ j, ND (bs j) (ss j) (es j) (xs j)) (hdb : ∀ j, DB L0 T0 (xs j)) (hLT : L0 + T0 ≤ 3000000) (hr : RdN w A n bs ss es) :
    Calls Tryz.prog 47 #[.slice A n c] w fun r w' => r = .returned (.agg #[.bool (neg (dm (firstD minB xs n))), .string (mag (dm (firstD minB xs n))), .int .i64 (de (firstD minB xs n)), .bool (neg (dm (firstD maxB xs n))), .string (mag (dm (firstD maxB xs n))), .int .i64 (de (firstD maxB xs n))]) ∧ Below w.heap.size w w' := by
  exact rsOf_x A n c _ _ _ _ _ _ w (Lib.hid fun W hB => rdMin_any A n c bs ss es xs L0 T0 W hn hnd hdb hLT (hr.below hB)) (Lib.hid fun W hB => rdMax_any A n c bs ss es xs L0 T0 W hn hnd hdb hLT (hr.below hB))

theorem rsOf4 {z1 z2 z3 z4 : Dyadic} {L T0 : Nat} {g : Nat} {t : TypeId} {w : World} (d1 : DB L T0 z1) (d2 : DB L T0 z2) (d3 : DB L T0 z3) (d4 : DB L T0 z4) (hLT : L + T0 ≤ 3000000) (h : Bx w g t #[.bool (neg (dm (z1))), .string (mag (dm (z1))), .int .i64 (de (z1)), .bool (neg (dm (z2))), .string (mag (dm (z2))), .int .i64 (de (z2)), .bool (neg (dm (z3))), .string (mag (dm (z3))), .int .i64 (de (z3)), .bool (neg (dm (z4))), .string (mag (dm (z4))), .int .i64 (de (z4))]) :
    Calls Tryz.prog 47 #[.slice (some ⟨g, 0, none⟩) 4 4] w fun r w' => r = .returned (.agg #[.bool (neg (dm (dmin4 z1 z2 z3 z4))), .string (mag (dm (dmin4 z1 z2 z3 z4))), .int .i64 (de (dmin4 z1 z2 z3 z4)), .bool (neg (dm (dmax4 z1 z2 z3 z4))), .string (mag (dm (dmax4 z1 z2 z3 z4))), .int .i64 (de (dmax4 z1 z2 z3 z4))]) ∧ Below w.heap.size w w' := by
  have h := rsOf_any _ 4 4 _ _ _ (four4 z1 z2 z3 z4) L T0 w (by decide) (fun j => nd_db (db_four d1 d2 d3 d4 j) (by omega)) (fun j => db_four d1 d2 d3 d4 j) hLT (rdN4B h)
  rwa [min4, max4] at h

theorem rsMul_any {b c : Bool} {s t : ByteArray} {e f : Int} {x y : Dyadic} {L T0 : Nat} {b' c' : Bool} {s' t' : ByteArray} {e' f' : Int} {x' y' : Dyadic} (n1 : ND b s e x) (n2 : ND c t f y) (d1 : DB L T0 x) (d2 : DB L T0 y) (m1 : ND b' s' e' x') (m2 : ND c' t' f' y') (k1 : DB L T0 x') (k2 : DB L T0 y') (hLT : L + T0 ≤ 1400000) (he : -300 ≤ e ∧ -300 ≤ f ∧ -300 ≤ e' ∧ -300 ≤ f') (w : World) :
    Calls Tryz.prog 21 #[.agg #[.bool b, .string s, .int .i64 e, .bool c, .string t, .int .i64 f], .agg #[.bool b', .string s', .int .i64 e', .bool c', .string t', .int .i64 f']] w fun r w' => r = .returned (.agg #[.bool (neg (dm (dmin4 (x * x') (x * y') (y * x') (y * y')))), .string (mag (dm (dmin4 (x * x') (x * y') (y * x') (y * y')))), .int .i64 (de (dmin4 (x * x') (x * y') (y * x') (y * y'))), .bool (neg (dm (dmax4 (x * x') (x * y') (y * x') (y * y')))), .string (mag (dm (dmax4 (x * x') (x * y') (y * x') (y * y')))), .int .i64 (de (dmax4 (x * x') (x * y') (y * x') (y * y')))]) ∧ Below w.heap.size w w' := by
  have z1 := db_mul d1 k1
  have z2 := db_mul d1 k2
  have z3 := db_mul d2 k1
  have z4 := db_mul d2 k2
  have tm : ∀ {b c : Bool} {s t : ByteArray} {e f : Int} {x y : Dyadic}, ND b s e x → ND c t f y → -1073741824 ≤ e + f → Hid (∀ W : World, Calls Tryz.prog 78 #[.agg #[.bool b, .string s, .int .i64 e], .agg #[.bool c, .string t, .int .i64 f]] W fun r w' => r = .returned (.agg #[.bool (neg (dm (x * y))), .string (mag (dm (x * y))), .int .i64 (de (x * y))]) ∧ Below W.heap.size W w') := fun n m h => Lib.hid fun W => rdTimes_any W n m h
  exact rsMul_x _ _ _ _ _ _ _ _ _ _ _ _ _ _ _ _ _ _ _ _ _ _ _ _ _ _ _ _ _ _ w (tm n1 m1 (by omega)) (tm n1 m2 (by omega)) (tm n2 m1 (by omega)) (tm n2 m2 (by omega)) (Lib.hid fun _ W hx => rsOf4 z1 z2 z3 z4 (by omega) hx)

end Go.Proofs.YtchfglbkiebfpaaGreatDoor

