/- The walks and plain laws beneath the statements. -/
import Derived.Test.YtchfglbkiebfpaaGreatDoorPM20
import Derived.Test.YtchfglbkiebfpaaGreatDoorPM21
namespace Go.Proofs.YtchfglbkiebfpaaGreatDoor
open Go.RowKit

theorem rsForm_any {b c : Bool} {s t : ByteArray} {e f : Int} {x y : Dyadic} {L T0 : Nat} (n1 : ND b s e x) (n2 : ND c t f y) (d1 : DB L T0 x) (d2 : DB L T0 y) (hLT : L + T0 ≤ 3000000) (w : World) :
    Calls Tryz.prog 41 #[.agg #[.bool b, .string s, .int .i64 e, .bool c, .string t, .int .i64 f]] w fun r w' => r = .returned (.agg #[.bool (neg (dm (dmin x y))), .string (mag (dm (dmin x y))), .int .i64 (de (dmin x y)), .bool (neg (dm (dmax x y))), .string (mag (dm (dmax x y))), .int .i64 (de (dmax x y))]) ∧ Below w.heap.size w w' := by
  by_cases hz : 0 < dsgn (x - y)
  · have h := dsgn_gt.1 hz
    rw [show dmin x y = y by unfold dmin; grind, show dmax x y = x by unfold dmax; grind]
    exact rsForm_gt _ _ _ _ _ _ _ _ _ _ _ _ _ hz w (Lib.hid fun W => rdCmp_any W n1 n2 d1 d2 hLT) (rdForm_nd n1) (rdForm_nd n2)
  · have h : ¬ 0 < x - y := fun h => hz (dsgn_gt.2 h)
    rw [show dmin x y = x by unfold dmin; grind, show dmax x y = y by unfold dmax; grind]
    exact rsForm_le _ _ _ _ _ _ _ _ _ _ _ _ _ hz w (Lib.hid fun W => rdCmp_any W n1 n2 d1 d2 hLT) (rdForm_nd n1) (rdForm_nd n2)

theorem hasB_ref (x y a : Dyadic) : hasB x y a = (decide (dsgn (dmin x y - a) ≤ 0) && decide (0 ≤ dsgn (dmax x y - a))) := by
  unfold hasB
  rw [show a - dmax x y = -(dmax x y - a) by grind, dsgn_neg]
  congr 2
  exact propext ⟨fun h => by omega, fun h => by omega⟩

theorem rsHas_any {b c : Bool} {s t : ByteArray} {e f : Int} {x y : Dyadic} {L T0 : Nat} {d : Bool} {u : ByteArray} {h : Int} {a : Dyadic} (n1 : ND b s e x) (n2 : ND c t f y) (d1 : DB L T0 x) (d2 : DB L T0 y) (n3 : ND d u h a) (d3 : DB L T0 a) (hLT : L + T0 ≤ 2900000) (w : World) :
    Calls Tryz.prog 32 #[.agg #[.bool b, .string s, .int .i64 e, .bool c, .string t, .int .i64 f], .agg #[.bool d, .string u, .int .i64 h]] w fun r w' => r = .returned (.bool (hasB x y a)) ∧ Below w.heap.size w w' := by
  have cF := Lib.hid fun W => rsForm_any n1 n2 d1 d2 (by omega) W
  have m1 := db_dmin d1 d2
  have m2 := db_dmax d1 d2
  have c1 := Lib.hid fun W => rdCmp_any W (nd_db m1 (by omega)) n3 m1 d3 (by omega)
  have c2 := Lib.hid fun W => rdCmp_any W (nd_db m2 (by omega)) n3 m2 d3 (by omega)
  rw [hasB_ref]
  by_cases hp : dsgn (dmin x y - a) ≤ 0
  · rw [decide_eq_true hp, Bool.true_and]
    exact rsHas_yes _ _ _ _ _ _ _ _ _ _ _ _ _ _ _ _ _ hp w cF c1 c2
  · rw [decide_eq_false hp, Bool.false_and]
    exact rsHas_no _ _ _ _ _ _ _ _ _ _ _ _ _ _ _ _ hp w cF c1

theorem rsOf_any (A : Option Addr) (n c : Nat) (bs : Nat → Bool) (ss : Nat → ByteArray) (es : Nat → Int) (xs : Nat → Dyadic) (L0 T0 : Nat) (w : World) (hn : n ≤ 1000000) (hnd : ∀ j, ND (bs j) (ss j) (es j) (xs j)) (hdb : ∀ j, DB L0 T0 (xs j)) (hLT : L0 + T0 ≤ 3000000) (hr : RdN w A n bs ss es) :
    Calls Tryz.prog 47 #[.slice A n c] w fun r w' => r = .returned (.agg #[.bool (neg (dm (firstD minB xs n))), .string (mag (dm (firstD minB xs n))), .int .i64 (de (firstD minB xs n)), .bool (neg (dm (firstD maxB xs n))), .string (mag (dm (firstD maxB xs n))), .int .i64 (de (firstD maxB xs n))]) ∧ Below w.heap.size w w' := by
  exact rsOf_x A n c _ _ _ _ _ _ w (Lib.hid fun W hB => rdMin_any A n c bs ss es xs L0 T0 W hn hnd hdb hLT (hr.below hB)) (Lib.hid fun W hB => rdMax_any A n c bs ss es xs L0 T0 W hn hnd hdb hLT (hr.below hB))

theorem rdMin2N {b c : Bool} {s t : ByteArray} {e f : Int} {x y : Dyadic} {L T0 : Nat} {g : Nat} {w : World} (n1 : ND b s e x) (n2 : ND c t f y) (d1 : DB L T0 x) (d2 : DB L T0 y) (hLT : L + T0 ≤ 3000000) (h : Bx w g 25 #[.bool b, .string s, .int .i64 e, .bool c, .string t, .int .i64 f]) :
    Calls Tryz.prog 98 #[.slice (some ⟨g, 0, none⟩) 2 2] w fun r w' => r = .returned (.agg #[.bool (neg (dm (dmin x y))), .string (mag (dm (dmin x y))), .int .i64 (de (dmin x y))]) ∧ Below w.heap.size w w' := by
  have h := rdMin_any _ 2 2 _ _ _ (fun j => if j = 0 then x else y) L T0 w (by decide) (fun j => by by_cases h0 : j = 0 <;> simp only [h0, if_true, if_false] <;> assumption) (fun j => by by_cases h0 : j = 0 <;> simp only [h0, if_true, if_false] <;> assumption) hLT (rdN2B h)
  rwa [min2] at h

theorem rdMax2N {b c : Bool} {s t : ByteArray} {e f : Int} {x y : Dyadic} {L T0 : Nat} {g : Nat} {w : World} (n1 : ND b s e x) (n2 : ND c t f y) (d1 : DB L T0 x) (d2 : DB L T0 y) (hLT : L + T0 ≤ 3000000) (h : Bx w g 25 #[.bool b, .string s, .int .i64 e, .bool c, .string t, .int .i64 f]) :
    Calls Tryz.prog 97 #[.slice (some ⟨g, 0, none⟩) 2 2] w fun r w' => r = .returned (.agg #[.bool (neg (dm (dmax x y))), .string (mag (dm (dmax x y))), .int .i64 (de (dmax x y))]) ∧ Below w.heap.size w w' := by
  have h := rdMax_any _ 2 2 _ _ _ (fun j => if j = 0 then x else y) L T0 w (by decide) (fun j => by by_cases h0 : j = 0 <;> simp only [h0, if_true, if_false] <;> assumption) (fun j => by by_cases h0 : j = 0 <;> simp only [h0, if_true, if_false] <;> assumption) hLT (rdN2B h)
  rwa [max2] at h

theorem rsMeet_any {b c : Bool} {s t : ByteArray} {e f : Int} {x y : Dyadic} {L T0 : Nat} {b' c' : Bool} {s' t' : ByteArray} {e' f' : Int} {x' y' : Dyadic} (n1 : ND b s e x) (n2 : ND c t f y) (d1 : DB L T0 x) (d2 : DB L T0 y) (m1 : ND b' s' e' x') (m2 : ND c' t' f' y') (k1 : DB L T0 x') (k2 : DB L T0 y') (hLT : L + T0 ≤ 2900000) (w : World) :
    Calls Tryz.prog 31 #[.agg #[.bool b, .string s, .int .i64 e, .bool c, .string t, .int .i64 f], .agg #[.bool b', .string s', .int .i64 e', .bool c', .string t', .int .i64 f']] w fun r w' => r = .returned (if 0 < dsgn (dmax (dmin x y) (dmin x' y') - dmin (dmax x y) (dmax x' y')) then .tuple #[.agg #[.bool false, .string ⟨#[]⟩, .int .i64 0, .bool false, .string ⟨#[]⟩, .int .i64 0], .bool false] else .tuple #[.agg #[.bool (neg (dm (dmax (dmin x y) (dmin x' y')))), .string (mag (dm (dmax (dmin x y) (dmin x' y')))), .int .i64 (de (dmax (dmin x y) (dmin x' y'))), .bool (neg (dm (dmin (dmax x y) (dmax x' y')))), .string (mag (dm (dmin (dmax x y) (dmax x' y')))), .int .i64 (de (dmin (dmax x y) (dmax x' y')))], .bool true]) ∧ Below w.heap.size w w' := by
  have i1 := db_dmin d1 d2
  have i2 := db_dmax d1 d2
  have j1 := db_dmin k1 k2
  have j2 := db_dmax k1 k2
  have lo := db_dmax i1 j1
  have hi := db_dmin i2 j2
  have c3 := Lib.hid fun g W (hx : Bx W g 25 #[.bool (neg (dm (dmin x y))), .string (mag (dm (dmin x y))), .int .i64 (de (dmin x y)), .bool (neg (dm (dmin x' y'))), .string (mag (dm (dmin x' y'))), .int .i64 (de (dmin x' y'))]) => rdMax2N (nd_db i1 (by omega)) (nd_db j1 (by omega)) i1 j1 (by omega) hx
  have c4 := Lib.hid fun g W (hx : Bx W g 25 #[.bool (neg (dm (dmax x y))), .string (mag (dm (dmax x y))), .int .i64 (de (dmax x y)), .bool (neg (dm (dmax x' y'))), .string (mag (dm (dmax x' y'))), .int .i64 (de (dmax x' y'))]) => rdMin2N (nd_db i2 (by omega)) (nd_db j2 (by omega)) i2 j2 (by omega) hx
  have c5 := Lib.hid fun W => rdCmp_any W (nd_db lo (by omega)) (nd_db hi (by omega)) lo hi (by omega)
  split
  · rename_i hz
    exact rsMeet_none _ _ _ _ _ _ _ _ _ _ _ _ _ _ _ _ _ _ _ _ _ _ _ _ _ _ _ _ _ _ _ hz w (Lib.hid fun W => rsForm_any n1 n2 d1 d2 (by omega) W) (Lib.hid fun W => rsForm_any m1 m2 k1 k2 (by omega) W) c3 c4 c5
  · rename_i hz
    exact rsMeet_some _ _ _ _ _ _ _ _ _ _ _ _ _ _ _ _ _ _ _ _ _ _ _ _ _ _ _ _ _ _ _ hz w (Lib.hid fun W => rsForm_any n1 n2 d1 d2 (by omega) W) (Lib.hid fun W => rsForm_any m1 m2 k1 k2 (by omega) W) c3 c4 c5

end Go.Proofs.YtchfglbkiebfpaaGreatDoor

