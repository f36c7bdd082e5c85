/- The walks and plain laws beneath the statements. -/
import Derived.Test.YtchfglbkiebfpaaGreatDoorPX23
import Derived.Test.YtchfglbkiebfpaaGreatDoorPX24
namespace Go.Proofs.YtchfglbkiebfpaaGreatDoor
open Go.RowKit

theorem rsForm_any {b c : Bool} {s t : ByteArray} {e f : Int} {x y : Dyadic} {L T0 : Nat} (n1 : ND b s e x) (n2 : ND c t f y) (d1 : DB L T0 x) (d2 : DB L T0 y) (hLT : L + T0 ≤ 3000000) (w : World) :
    Calls Tryz.prog 41 #[.agg #[.bool b, .string s, .int .i64 e, .bool c, .string t, .int .i64 f]] w fun r w' => r = .returned (.agg #[.bool (neg (dm (dmin x y))), .string (mag (dm (dmin x y))), .int .i64 (de (dmin x y)), .bool (neg (dm (dmax x y))), .string (mag (dm (dmax x y))), .int .i64 (de (dmax x y))]) ∧ Below w.heap.size w w' := by
  by_cases hz : 0 < dsgn (x - y)
  · have h := dsgn_gt.1 hz
    rw [show dmin x y = y by unfold dmin; grind, show dmax x y = x by unfold dmax; grind]
    exact rsForm_gt _ _ _ _ _ _ _ _ _ _ _ _ _ hz w (Lib.hid fun W => rdCmp_any W n1 n2 d1 d2 hLT) (rdForm_nd n1) (rdForm_nd n2)
  · have h : ¬ 0 < x - y := fun h => hz (dsgn_gt.2 h)
    rw [show dmin x y = x by unfold dmin; grind, show dmax x y = y by unfold dmax; grind]
    exact rsForm_le _ _ _ _ _ _ _ _ _ _ _ _ _ hz w (Lib.hid fun W => rdCmp_any W n1 n2 d1 d2 hLT) (rdForm_nd n1) (rdForm_nd n2)

theorem hasB_ref (x y a : Dyadic) : hasB x y a = (decide (dsgn (dmin x y - a) ≤ 0) && decide (0 ≤ dsgn (dmax x y - a))) := by
  unfold hasB
  rw [show a - dmax x y = -(dmax x y - a) by grind, dsgn_neg]
  congr 2
  exact propext ⟨fun h => by omega, fun h => by omega⟩

theorem rsHas_any {b c : Bool} {s t : ByteArray} {e f : Int} {x y : Dyadic} {L T0 : Nat} {d : Bool} {u : ByteArray} {h : Int} {a : Dyadic} (n1 : ND b s e x) (n2 : ND c t f y) (d1 : DB L T0 x) (d2 : DB L T0 y) (n3 : ND d u h a) (d3 : DB L T0 a) (hLT : L + T0 ≤ 2900000) (w : World) :
    Calls Tryz.prog 32 #[.agg #[.bool b, .string s, .int .i64 e, .bool c, .string t, .int .i64 f], .agg #[.bool d, .string u, .int .i64 h]] w fun r w' => r = .returned (.bool (hasB x y a)) ∧ Below w.heap.size w w' := by
  have cF := Lib.hid fun W => rsForm_any n1 n2 d1 d2 (by omega) W
  have m1 := db_dmin d1 d2
  have m2 := db_dmax d1 d2
  have c1 := Lib.hid fun W => rdCmp_any W (nd_db m1 (by omega)) n3 m1 d3 (by omega)
  have c2 := Lib.hid fun W => rdCmp_any W (nd_db m2 (by omega)) n3 m2 d3 (by omega)
  rw [hasB_ref]
  by_cases hp : dsgn (dmin x y - a) ≤ 0
  · rw [decide_eq_true hp, Bool.true_and]
    exact rsHas_yes _ _ _ _ _ _ _ _ _ _ _ _ _ _ _ _ _ hp w cF c1 c2
  · rw [decide_eq_false hp, Bool.false_and]
    exact rsHas_no _ _ _ _ _ _ _ _ _ _ _ _ _ _ _ _ hp w cF c1

theorem rdNeg_vn {L T0 : Nat} {x : Dyadic} (d1 : DB L T0 x) (hLT : L + T0 ≤ 4000000) :
    Hid (∀ W : World, Calls Tryz.prog 75 #[.agg #[.bool (neg (dm (x))), .string (mag (dm (x))), .int .i64 (de (x))]] W fun r w' => r = .returned (.agg #[.bool (neg (dm (-x))), .string (mag (dm (-x))), .int .i64 (de (-x))]) ∧ Below W.heap.size W w') := by
  have n := nd_db d1 hLT
  have c := Lib.hid fun W => rdNeg_any (mag (dm x)) (neg (dm x)) (de x) W (Nat.le_trans n.size (by decide)) n.lo (by have := n.hi; omega)
  rw [ival_mk, dy_dm] at c
  exact c

theorem rsOut_any {b c : Bool} {s t : ByteArray} {e f : Int} {x y : Dyadic} {L T0 : Nat} {P : Nat} (p : Int) (n1 : ND b s e x) (n2 : ND c t f y) (d1 : DB L T0 x) (d2 : DB L T0 y) (hLT : 2 * L + T0 + 2 * P ≤ 2000000) (hp1 : -(P : Int) ≤ p) (hp2 : p ≤ P) (w : World) :
    Calls Tryz.prog 29 #[.agg #[.bool b, .string s, .int .i64 e, .bool c, .string t, .int .i64 f], .int .i64 p] w fun r w' => r = .returned (.agg #[.bool (neg (dm ((dmin x y).roundDown p))), .string (mag (dm ((dmin x y).roundDown p))), .int .i64 (de ((dmin x y).roundDown p)), .bool (neg (dm ((dmax x y).roundUp p))), .string (mag (dm ((dmax x y).roundUp p))), .int .i64 (de ((dmax x y).roundUp p))]) ∧ Below w.heap.size w w' := by
  have i1 := db_dmin d1 d2
  have i2 := db_dmax d1 d2
  exact rsOut_x _ _ _ _ _ _ _ _ _ _ _ _ _ _ _ _ _ _ _ w (Lib.hid fun W => rsForm_any n1 n2 d1 d2 (by omega) W) (Lib.hid fun W => rdFloor_any p W (nd_db i1 (by omega)) i1 (by omega) (by omega) (by omega)) (Lib.hid fun W => rdCeil_any p W (nd_db i2 (by omega)) i2 hLT hp1 hp2)

theorem rsOf_any (A : Option Addr) (n c : Nat) (bs : Nat → Bool) (ss : Nat → ByteArray) (es : Nat → Int) (xs : Nat → Dyadic) (L0 T0 : Nat) (w : World) (hn : n ≤ 1000000) (hnd : ∀ j, ND (bs j) (ss j) (es j) (xs j)) (hdb : ∀ j, DB L0 T0 (xs j)) (hLT : L0 + T0 ≤ 3000000) (hr : RdN w A n bs ss es) :
    Calls Tryz.prog 47 #[.slice A n c] w fun r w' => r = .returned (.agg #[.bool (neg (dm (firstD minB xs n))), .string (mag (dm (firstD minB xs n))), .int .i64 (de (firstD minB xs n)), .bool (neg (dm (firstD maxB xs n))), .string (mag (dm (firstD maxB xs n))), .int .i64 (de (firstD maxB xs n))]) ∧ Below w.heap.size w w' := by
  exact rsOf_x A n c _ _ _ _ _ _ w (Lib.hid fun W hB => rdMin_any A n c bs ss es xs L0 T0 W hn hnd hdb hLT (hr.below hB)) (Lib.hid fun W hB => rdMax_any A n c bs ss es xs L0 T0 W hn hnd hdb hLT (hr.below hB))

end Go.Proofs.YtchfglbkiebfpaaGreatDoor

