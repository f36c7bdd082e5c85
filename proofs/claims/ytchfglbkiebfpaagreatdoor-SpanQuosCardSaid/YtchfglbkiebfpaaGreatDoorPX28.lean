/- The walks and plain laws beneath the statements. -/
import Derived.Test.YtchfglbkiebfpaaGreatDoorPX27
import Derived.Test.YtchfglbkiebfpaaGreatDoorPX23
import Derived.Test.YtchfglbkiebfpaaGreatDoorPX7
namespace Go.Proofs.YtchfglbkiebfpaaGreatDoor
open Go.RowKit

theorem has_no {x y : Dyadic} (h : hasB x y 0 = false) : x ≠ 0 ∧ y ≠ 0 ∧ ¬ btw x y 0 := by
  have h1 : ¬ (dmin x y ≤ 0 ∧ 0 ≤ dmax x y) := fun h2 => by rw [(hasB_iff x y 0).2 h2] at h; cases h
  refine ⟨fun e => h1 ?_, fun e => h1 ?_, h1⟩ <;> (subst e; unfold dmin dmax; constructor <;> grind)
theorem db_quoU {L T0 P : Nat} {x y : Dyadic} {p : Int} (d1 : DB L T0 x) (d2 : DB L T0 y) (hp1 : -(P : Int) ≤ p) (hp2 : p ≤ P) : DB P (2 * (L + T0) + 2 * P) (quoU x y p) := db_neg (db_quo (db_neg d1) d2 hp1 hp2)
theorem hull8 {l1 l2 l3 l4 u1 u2 u3 u4 : Dyadic} (h1 : l1 ≤ u1) (h2 : l2 ≤ u2) (h3 : l3 ≤ u3) (h4 : l4 ≤ u4) :
    firstD minB (alt (four4 l1 l2 l3 l4) (four4 u1 u2 u3 u4)) 8 = dmin4 l1 l2 l3 l4 ∧ firstD maxB (alt (four4 l1 l2 l3 l4) (four4 u1 u2 u3 u4)) 8 = dmax4 u1 u2 u3 u4 := by
  have a0 : alt (four4 l1 l2 l3 l4) (four4 u1 u2 u3 u4) 0 = l1 := rfl
  have a1 : alt (four4 l1 l2 l3 l4) (four4 u1 u2 u3 u4) 1 = u1 := rfl
  have a2 : alt (four4 l1 l2 l3 l4) (four4 u1 u2 u3 u4) 2 = l2 := rfl
  have a3 : alt (four4 l1 l2 l3 l4) (four4 u1 u2 u3 u4) 3 = u2 := rfl
  have a4 : alt (four4 l1 l2 l3 l4) (four4 u1 u2 u3 u4) 4 = l3 := rfl
  have a5 : alt (four4 l1 l2 l3 l4) (four4 u1 u2 u3 u4) 5 = u3 := rfl
  have a6 : alt (four4 l1 l2 l3 l4) (four4 u1 u2 u3 u4) 6 = l4 := rfl
  have a7 : alt (four4 l1 l2 l3 l4) (four4 u1 u2 u3 u4) 7 = u4 := rfl
  constructor
  · rw [first_min _ (k := 7) (by decide), first_min _ (k := 6) (by decide), first_min _ (k := 5) (by decide), first_min _ (k := 4) (by decide), first_min _ (k := 3) (by decide), first_min _ (k := 2) (by decide), first_min _ (k := 1) (by decide), show firstD minB (alt (four4 l1 l2 l3 l4) (four4 u1 u2 u3 u4)) 1 = alt (four4 l1 l2 l3 l4) (four4 u1 u2 u3 u4) 0 from rfl, a0, a1, a2, a3, a4, a5, a6, a7]
    have m1 : ∀ a u : Dyadic, a ≤ u → dmin a u = a := fun a u h => (dmin_of h).1
    have m2 : ∀ z a u : Dyadic, a ≤ u → dmin (dmin z a) u = dmin z a := fun z a u h => by unfold dmin; grind
    unfold dmin4
    rw [m1 _ _ h1, m2 _ _ _ h2, m2 _ _ _ h3, m2 _ _ _ h4]
  · rw [first_max _ (k := 7) (by decide), first_max _ (k := 6) (by decide), first_max _ (k := 5) (by decide), first_max _ (k := 4) (by decide), first_max _ (k := 3) (by decide), first_max _ (k := 2) (by decide), first_max _ (k := 1) (by decide), show firstD maxB (alt (four4 l1 l2 l3 l4) (four4 u1 u2 u3 u4)) 1 = alt (four4 l1 l2 l3 l4) (four4 u1 u2 u3 u4) 0 from rfl, a0, a1, a2, a3, a4, a5, a6, a7]
    have m1 : ∀ a u : Dyadic, a ≤ u → dmax a u = u := fun a u h => (dmin_of h).2
    have m2 : ∀ z a u : Dyadic, a ≤ u → dmax (dmax z a) u = dmax z u := fun z a u h => by unfold dmax; grind
    unfold dmax4
    rw [m1 _ _ h1, m2 _ _ _ h2, m2 _ _ _ h3, m2 _ _ _ h4]

theorem dMin4 {z1 z2 z3 z4 : Dyadic} {L T0 : Nat} {g : Nat} {t : TypeId} {w : World} (d1 : DB L T0 z1) (d2 : DB L T0 z2) (d3 : DB L T0 z3) (d4 : DB L T0 z4) (hLT : L + T0 ≤ 4000000) (hT : TabAt 0 Lib.deBruijn64tab w) (h : Bx w g t #[.bool (neg (dm (z1))), .string (mag (dm (z1))), .int .i64 (de (z1)), .bool (neg (dm (z2))), .string (mag (dm (z2))), .int .i64 (de (z2)), .bool (neg (dm (z3))), .string (mag (dm (z3))), .int .i64 (de (z3)), .bool (neg (dm (z4))), .string (mag (dm (z4))), .int .i64 (de (z4))]) :
    Calls Tryz.prog 91 #[.slice (some ⟨g, 0, none⟩) 4 4] w fun r w' => r = .returned (.agg #[.bool (neg (dm (dmin4 z1 z2 z3 z4))), .string (mag (dm (dmin4 z1 z2 z3 z4))), .int .i64 (de (dmin4 z1 z2 z3 z4))]) ∧ Below w.heap.size w w' := by
  have h := dMin_any _ 4 4 _ _ _ (four4 z1 z2 z3 z4) w (by decide) (fun j => nd_db (db_four d1 d2 d3 d4 j) hLT) (rdN4B h) hT
  rwa [min4] at h

theorem dMax4 {z1 z2 z3 z4 : Dyadic} {L T0 : Nat} {g : Nat} {t : TypeId} {w : World} (d1 : DB L T0 z1) (d2 : DB L T0 z2) (d3 : DB L T0 z3) (d4 : DB L T0 z4) (hLT : L + T0 ≤ 4000000) (hT : TabAt 0 Lib.deBruijn64tab w) (h : Bx w g t #[.bool (neg (dm (z1))), .string (mag (dm (z1))), .int .i64 (de (z1)), .bool (neg (dm (z2))), .string (mag (dm (z2))), .int .i64 (de (z2)), .bool (neg (dm (z3))), .string (mag (dm (z3))), .int .i64 (de (z3)), .bool (neg (dm (z4))), .string (mag (dm (z4))), .int .i64 (de (z4))]) :
    Calls Tryz.prog 92 #[.slice (some ⟨g, 0, none⟩) 4 4] w fun r w' => r = .returned (.agg #[.bool (neg (dm (dmax4 z1 z2 z3 z4))), .string (mag (dm (dmax4 z1 z2 z3 z4))), .int .i64 (de (dmax4 z1 z2 z3 z4))]) ∧ Below w.heap.size w w' := by
  have h := dMax_any _ 4 4 _ _ _ (four4 z1 z2 z3 z4) w (by decide) (fun j => nd_db (db_four d1 d2 d3 d4 j) hLT) (rdN4B h) hT
  rwa [max4] at h

theorem sDivC1_any {b c : Bool} {s t : ByteArray} {e f : Int} {x y : Dyadic} {L T0 P : Nat} (p : Int) (gp : Nat) (w : World) (n1 : ND b s e x) (n2 : ND c t f y) (d1 : DB L T0 x) (d2 : DB L T0 y) (hLT : 2 * (L + T0) + 3 * P ≤ 1000000) (hp1 : -(P : Int) ≤ p) (hp2 : p ≤ P) (hy : y ≠ 0) (hT : TabAt 0 Lib.deBruijn64tab w) (hP : Bx w gp 3 #[.int .i64 (p)]) :
    Calls Tryz.prog 89 #[.agg #[.bool b, .string s, .int .i64 e], .agg #[.bool c, .string t, .int .i64 f], .pointer (some ⟨gp, 0, none⟩)] w fun r w' => r = .returned (.agg #[.bool (neg (dm (quoD x y p))), .string (mag (dm (quoD x y p))), .int .i64 (de (quoD x y p))]) ∧ Below w.heap.size w w' := by
  have cQ := Lib.hid (fun W h => sQuo_any p W n1 n2 d1 d2 (P := P) (by omega) hp1 hp2 h)
  rw [if_neg hy] at cQ
  exact sDivC1 _ _ _ _ _ _ _ _ _ _ _ _ _ _ _ w hP hT cQ

theorem sDivC2_any {b c : Bool} {s t : ByteArray} {e f : Int} {x y : Dyadic} {L T0 P : Nat} (p : Int) (gp : Nat) (w : World) (n1 : ND b s e x) (n2 : ND c t f y) (d1 : DB L T0 x) (d2 : DB L T0 y) (hLT : 2 * (L + T0) + 3 * P ≤ 1000000) (hp1 : -(P : Int) ≤ p) (hp2 : p ≤ P) (hy : y ≠ 0) (hT : TabAt 0 Lib.deBruijn64tab w) (hP : Bx w gp 3 #[.int .i64 (p)]) :
    Calls Tryz.prog 90 #[.agg #[.bool b, .string s, .int .i64 e], .agg #[.bool c, .string t, .int .i64 f], .pointer (some ⟨gp, 0, none⟩)] w fun r w' => r = .returned (.agg #[.bool (neg (dm (quoU x y p))), .string (mag (dm (quoU x y p))), .int .i64 (de (quoU x y p))]) ∧ Below w.heap.size w w' := by
  have cQ := Lib.hid (fun W h => sQuo_any p W n1 n2 d1 d2 (P := P) (by omega) hp1 hp2 h)
  rw [if_neg hy] at cQ
  exact sDivC2 _ _ _ _ _ _ _ _ _ _ _ _ _ _ _ w hP hT cQ

theorem sFourD1_any {b c : Bool} {s t : ByteArray} {e f : Int} {x y : Dyadic} {L T0 P : Nat} {b' c' : Bool} {s' t' : ByteArray} {e' f' : Int} {x' y' : Dyadic} (p : Int) (gp : Nat) (w : World) (n1 : ND b s e x) (n2 : ND c t f y) (d1 : DB L T0 x) (d2 : DB L T0 y) (m1 : ND b' s' e' x') (m2 : ND c' t' f' y') (k1 : DB L T0 x') (k2 : DB L T0 y') (hLT : 2 * (L + T0) + 3 * P ≤ 1000000) (hp1 : -(P : Int) ≤ p) (hp2 : p ≤ P) (hx' : x' ≠ 0) (hy' : y' ≠ 0) (hT : TabAt 0 Lib.deBruijn64tab w) (hP : Bx w gp 3 #[.int .i64 (p)]) :
    Calls Tryz.prog 76 #[.agg #[.bool b, .string s, .int .i64 e, .bool c, .string t, .int .i64 f], .agg #[.bool b', .string s', .int .i64 e', .bool c', .string t', .int .i64 f'], .func (.func 89) #[] #[.pointer (some ⟨gp, 0, none⟩)]] w fun r w' => r = .returned (.agg #[.bool (neg (dm (quoD x x' p))), .string (mag (dm (quoD x x' p))), .int .i64 (de (quoD x x' p)), .bool (neg (dm (quoD x y' p))), .string (mag (dm (quoD x y' p))), .int .i64 (de (quoD x y' p)), .bool (neg (dm (quoD y x' p))), .string (mag (dm (quoD y x' p))), .int .i64 (de (quoD y x' p)), .bool (neg (dm (quoD y y' p))), .string (mag (dm (quoD y y' p))), .int .i64 (de (quoD y y' p))]) ∧ Below w.heap.size w w' := by
  exact sFourD1 _ _ _ _ _ _ _ _ _ _ _ _ _ _ _ _ _ _ _ _ _ _ _ _ _ _ w hP hT (Lib.hid fun W h hx => sDivC1_any p gp W n1 m1 d1 k1 hLT hp1 hp2 hx' h hx) (Lib.hid fun W h hx => sDivC1_any p gp W n1 m2 d1 k2 hLT hp1 hp2 hy' h hx) (Lib.hid fun W h hx => sDivC1_any p gp W n2 m1 d2 k1 hLT hp1 hp2 hx' h hx) (Lib.hid fun W h hx => sDivC1_any p gp W n2 m2 d2 k2 hLT hp1 hp2 hy' h hx)

theorem sFourD2_any {b c : Bool} {s t : ByteArray} {e f : Int} {x y : Dyadic} {L T0 P : Nat} {b' c' : Bool} {s' t' : ByteArray} {e' f' : Int} {x' y' : Dyadic} (p : Int) (gp : Nat) (w : World) (n1 : ND b s e x) (n2 : ND c t f y) (d1 : DB L T0 x) (d2 : DB L T0 y) (m1 : ND b' s' e' x') (m2 : ND c' t' f' y') (k1 : DB L T0 x') (k2 : DB L T0 y') (hLT : 2 * (L + T0) + 3 * P ≤ 1000000) (hp1 : -(P : Int) ≤ p) (hp2 : p ≤ P) (hx' : x' ≠ 0) (hy' : y' ≠ 0) (hT : TabAt 0 Lib.deBruijn64tab w) (hP : Bx w gp 3 #[.int .i64 (p)]) :
    Calls Tryz.prog 76 #[.agg #[.bool b, .string s, .int .i64 e, .bool c, .string t, .int .i64 f], .agg #[.bool b', .string s', .int .i64 e', .bool c', .string t', .int .i64 f'], .func (.func 90) #[] #[.pointer (some ⟨gp, 0, none⟩)]] w fun r w' => r = .returned (.agg #[.bool (neg (dm (quoU x x' p))), .string (mag (dm (quoU x x' p))), .int .i64 (de (quoU x x' p)), .bool (neg (dm (quoU x y' p))), .string (mag (dm (quoU x y' p))), .int .i64 (de (quoU x y' p)), .bool (neg (dm (quoU y x' p))), .string (mag (dm (quoU y x' p))), .int .i64 (de (quoU y x' p)), .bool (neg (dm (quoU y y' p))), .string (mag (dm (quoU y y' p))), .int .i64 (de (quoU y y' p))]) ∧ Below w.heap.size w w' := by
  exact sFourD2 _ _ _ _ _ _ _ _ _ _ _ _ _ _ _ _ _ _ _ _ _ _ _ _ _ _ w hP hT (Lib.hid fun W h hx => sDivC2_any p gp W n1 m1 d1 k1 hLT hp1 hp2 hx' h hx) (Lib.hid fun W h hx => sDivC2_any p gp W n1 m2 d1 k2 hLT hp1 hp2 hy' h hx) (Lib.hid fun W h hx => sDivC2_any p gp W n2 m1 d2 k1 hLT hp1 hp2 hx' h hx) (Lib.hid fun W h hx => sDivC2_any p gp W n2 m2 d2 k2 hLT hp1 hp2 hy' h hx)

theorem sDiv_any {b c : Bool} {s t : ByteArray} {e f : Int} {x y : Dyadic} {L T0 P : Nat} {b' c' : Bool} {s' t' : ByteArray} {e' f' : Int} {x' y' : Dyadic} (p : Int) (w : World) (n1 : ND b s e x) (n2 : ND c t f y) (d1 : DB L T0 x) (d2 : DB L T0 y) (m1 : ND b' s' e' x') (m2 : ND c' t' f' y') (k1 : DB L T0 x') (k2 : DB L T0 y') (hLT : 2 * (L + T0) + 3 * P ≤ 1000000) (hp1 : -(P : Int) ≤ p) (hp2 : p ≤ P) (hT : TabAt 0 Lib.deBruijn64tab w) :
    Calls Tryz.prog 26 #[.agg #[.bool b, .string s, .int .i64 e, .bool c, .string t, .int .i64 f], .agg #[.bool b', .string s', .int .i64 e', .bool c', .string t', .int .i64 f'], .int .i64 (p)] w fun r w' => r = .returned (if hasB x' y' 0 = true then .tuple #[.agg #[.bool false, .string ⟨#[]⟩, .int .i64 0, .bool false, .string ⟨#[]⟩, .int .i64 0], .int .i64 1] else .tuple #[.agg #[.bool (neg (dm (dmin4 (quoD x x' p) (quoD x y' p) (quoD y x' p) (quoD y y' p)))), .string (mag (dm (dmin4 (quoD x x' p) (quoD x y' p) (quoD y x' p) (quoD y y' p)))), .int .i64 (de (dmin4 (quoD x x' p) (quoD x y' p) (quoD y x' p) (quoD y y' p))), .bool (neg (dm (dmax4 (quoU x x' p) (quoU x y' p) (quoU y x' p) (quoU y y' p)))), .string (mag (dm (dmax4 (quoU x x' p) (quoU x y' p) (quoU y x' p) (quoU y y' p)))), .int .i64 (de (dmax4 (quoU x x' p) (quoU x y' p) (quoU y x' p) (quoU y y' p)))], .int .i64 0]) ∧ Below w.heap.size w w' := by
  have cH := Lib.hid (fun W h => sHas_any W m1 m2 nd_zero0 k1 k2 (by omega) h)
  cases hb : hasB x' y' 0
  · rw [if_neg (by decide)]
    rw [hb] at cH
    obtain ⟨hx', hy', _⟩ := has_no hb
    have dq : ∀ {u v : Dyadic}, DB L T0 u → DB L T0 v → DB P (2 * (L + T0) + 2 * P) (quoD u v p) := fun h1 h2 => db_quo h1 h2 hp1 hp2
    have du : ∀ {u v : Dyadic}, DB L T0 u → DB L T0 v → DB P (2 * (L + T0) + 2 * P) (quoU u v p) := fun h1 h2 => db_quoU h1 h2 hp1 hp2
    exact sDiv_some _ _ _ _ _ _ _ _ _ _ _ _ _ _ _ _ _ _ _ _ _ _ _ _ _ _ _ _ _ _ _ _ _ _ _ _ _ _ _ _ _ _ _ w hT cH (Lib.hid fun g W h hx => sFourD1_any p g W n1 n2 d1 d2 m1 m2 k1 k2 hLT hp1 hp2 hx' hy' h hx) (Lib.hid fun g W h hx => sFourD2_any p g W n1 n2 d1 d2 m1 m2 k1 k2 hLT hp1 hp2 hx' hy' h hx)
      (Lib.hid fun _ W h hx => dMin4 (dq d1 k1) (dq d1 k2) (dq d2 k1) (dq d2 k2) (by omega) h hx) (Lib.hid fun _ W h hx => dMax4 (du d1 k1) (du d1 k2) (du d2 k1) (du d2 k2) (by omega) h hx)
  · rw [if_pos rfl]
    rw [hb] at cH
    exact sDiv_zero _ _ _ _ _ _ _ _ _ _ _ _ _ w hT cH

theorem quoN_lt {L T0 P : Nat} {x y : Dyadic} {p : Int} (d1 : DB L T0 x) (d2 : DB L T0 y) (hp : -(P : Int) ≤ p) : (quoN x y p).natAbs < 2 ^ (2 * (L + T0) + P) := by
  have f1 := db_form d1
  have f2 := db_form d2
  unfold quoN
  split
  · exact Nat.lt_of_lt_of_le f2.2.2 (Nat.pow_le_pow_right (by decide) (by omega))
  · rw [Int.natAbs_mul, Int.natAbs_pow]
    show (dm y).natAbs * 2 ^ (-(de x - de y + p)).toNat < _
    have h1 : (dm y).natAbs * 2 ^ (-(de x - de y + p)).toNat < 2 ^ (L + T0) * 2 ^ (-(de x - de y + p)).toNat := Nat.mul_lt_mul_of_pos_right f2.2.2 (Nat.two_pow_pos _)
    rw [← Nat.pow_add] at h1
    exact Nat.lt_of_lt_of_le h1 (Nat.pow_le_pow_right (by decide) (by omega))
theorem mag_two {z : Int} {k : Nat} (h : z.natAbs < 2 ^ k) : (mag z).size ≤ k / 8 + 1 := by
  rw [mag_size]
  refine bsz_le (Nat.lt_of_lt_of_le h ?_)
  rw [show 256 = 2 ^ 8 from rfl, ← Nat.pow_mul]
  exact Nat.pow_le_pow_right (by decide) (by omega)
theorem dsgn_two {y : Dyadic} (hy : y ≠ 0) : dsgn y = 1 ∧ 0 < y ∨ dsgn y = -1 ∧ y < 0 := by
  have h := dsgn_bd y
  have h0 : dsgn y ≠ 0 := fun e => hy (dsgn_eq.1 e)
  by_cases hp : 0 < dsgn y
  · exact .inl ⟨by omega, dsgn_gt.1 hp⟩
  · exact .inr ⟨by omega, dsgn_lt.1 (by omega)⟩
theorem quo_ref (x : Dyadic) {y : Dyadic} (p : Int) (hy : 0 < y) : quoD x y p = dy (quoM x y p / quoN x y p) (-p) ∧ quoU x y p = dy (if quoM x y p % quoN x y p = 0 then quoM x y p / quoN x y p else quoM x y p / quoN x y p + 1) (-p) := by
  have hN := quoN_pos (x := x) (p := p) hy
  have e1 : quoN (-x) y p = quoN x y p := by unfold quoN; rw [(neg_form x).2]
  have e2 : quoM (-x) y p = -quoM x y p := by
    unfold quoM
    rw [(neg_form x).1, (neg_form x).2]
    split
    · rw [Int.neg_mul]
    · rfl
  unfold quoU quoD
  rw [e1, e2, if_neg (by omega), if_neg (by omega)]
  refine ⟨rfl, ?_⟩
  rw [dy_neg]
  congr 1
  split
  · rename_i h
    rw [Int.neg_ediv_of_dvd (Int.dvd_of_emod_eq_zero h), Int.neg_neg]
  · rename_i h
    exact neg_ediv_up hN h
/-- The two whole numbers that the document divides. -/
theorem quo_parts {x y : Dyadic} {p : Int} (hx : x ≠ 0) : de (dy (dm x) (de x + p)) = de x + p ∧ dm (dy (dm x) (de x + p)) = dm x ∧
    shiftI (dm x) (de x + p - min (de x + p) (de y)) = quoM x y p ∧ shiftI (dm y) (de y - min (de x + p) (de y)) = quoN x y p := by
  obtain ⟨h1, h2⟩ := dy_of_odd (de x + p) (dm_odd hx)
  refine ⟨h2, h1, ?_, ?_⟩
  · unfold shiftI quoM
    by_cases h : 0 ≤ de x - de y + p
    · rw [if_pos h, if_pos (by omega), show de x + p - min (de x + p) (de y) = de x - de y + p by omega]
    · rw [if_neg h, if_pos (by omega), show (de x + p - min (de x + p) (de y)).toNat = 0 by omega, Int.pow_zero, Int.mul_one]
  · unfold shiftI quoN
    by_cases h : 0 ≤ de x - de y + p
    · rw [if_pos h, if_pos (by omega), show (de y - min (de x + p) (de y)).toNat = 0 by omega, Int.pow_zero, Int.mul_one]
    · rw [if_neg h, if_pos (by omega), show de y - min (de x + p) (de y) = -(de x - de y + p) by omega]

theorem rsQuo_any {b c : Bool} {s t : ByteArray} {e f : Int} {x y : Dyadic} {L T0 P : Nat} (p : Int) (n1 : ND b s e x) (n2 : ND c t f y) (d1 : DB L T0 x) (d2 : DB L T0 y) (hLT : 2 * (L + T0) + 3 * P ≤ 1000000) (hp1 : -(P : Int) ≤ p) (hp2 : p ≤ P) (hy : y ≠ 0) (w : World) :
    Calls Tryz.prog 25 #[.agg #[.bool b, .string s, .int .i64 e], .agg #[.bool c, .string t, .int .i64 f], .int .i64 (p)] w fun r w' => r = .returned (.agg #[.bool (neg (dm (quoD x y p))), .string (mag (dm (quoD x y p))), .int .i64 (de (quoD x y p)), .bool (neg (dm (quoU x y p))), .string (mag (dm (quoU x y p))), .int .i64 (de (quoU x y p))]) ∧ Below w.heap.size w w' := by
  have c3 := rdSign_vn d2 (by omega)
  rcases dsgn_two hy with ⟨hs0, hy0⟩ | ⟨hs0, hy0⟩
  · have hs : ¬ dsgn y < 0 := by omega
    have dz : DB (L + P) (T0 + P) (dy (dm (x)) (de (x) + p)) := db_shift d1 p (by omega) (by omega)
    have f1 := db_form d1
    have f2 := db_form d2
    have nX := nd_db d1 (by omega)
    have c4 := Lib.hid fun W => rdShift_any (mag (dm (x))) (neg (dm (x))) (de (x)) p W (Nat.le_trans nX.size (by decide)) (by omega) (by omega)
    rw [ival_mk] at c4
    have c5 := rdSign_vn dz (by omega)
    have np := Lib.hid (show IntKind.i64.wrap (-p) = -p from IntWalk.i64_in _ (by omega))
    by_cases hz : x = 0
    · have ez : dy (dm (x)) (de (x) + p) = 0 := by rw [dm_zero.2 hz, dy_zero]
      rw [ez] at c4 c5
      have c6 := Lib.hid fun W => rShift_any (mag (dm (0 : Dyadic))) (neg (dm (0 : Dyadic))) 0 W (by decide) (by decide)
      have nY := nd_db d2 (by omega)
      have c7 := Lib.hid fun W => rShift_any (mag (dm (y))) (neg (dm (y))) 0 W (Nat.le_trans nY.size (by decide)) (by decide)
      rw [ival_mk] at c6 c7
      have e0 : ∀ z : Int, shiftI z 0 = z := fun z => by unfold shiftI; rw [if_pos (by decide)]; simp
      rw [e0] at c6 c7
      have c8 := Lib.hid fun W => rWDiv_any (mag (dm (0 : Dyadic))) (mag (dm (y))) (neg (dm (0 : Dyadic))) (neg (dm (y))) W (by decide) (Nat.le_trans nY.size (by decide))
      have hm : dm (y) ≠ 0 := fun h => by have := dm_zero.1 h; grind
      rw [if_neg (by intro h; apply hm; have := ival_mk (dm (y)); rw [h] at this; unfold ival at this; split at this <;> omega), ival_mk, ival_mk, show dm (0 : Dyadic) = 0 from rfl, Int.zero_ediv, Int.zero_emod] at c8
      have c9 := Lib.hid fun W => rMake_any (mag 0) (neg 0) (-p) W (by decide) (by omega) (by omega)
      rw [ival_mk, dy_zero] at c9
      have c10 := Lib.hid fun W => rWSign_any (mag 0) (neg 0) W (by decide)
      rw [ival_mk] at c10
      have q0 : quoD (x) (y) p = 0 ∧ quoU (x) (y) p = 0 := by
        obtain ⟨a1, a2⟩ := quo_ref (x) p hy0
        have m0 : quoM (x) (y) p = 0 := by unfold quoM; rw [dm_zero.2 hz]; split <;> simp
        rw [m0, Int.zero_ediv] at a1 a2
        rw [Int.zero_emod, if_pos rfl] at a2
        rw [a1, a2, dy_zero]; exact ⟨rfl, rfl⟩
      rw [q0.1, q0.2]
      exact rsQuo_pz _ _ _ _ _ _ _ _ _ _ _ _ _ _ _ _ _ _ _ _ _ _ _ _ _ _ _ _ _ _ _ _ _ _ hs (dsgn_eq.2 rfl) (show sgn 0 = 0 from rfl) (Lib.hid rfl) (Lib.hid rfl) np w (rdForm_nd n1) (rdForm_nd n2) c3 c4 c5 c6 c7 c8 c9 c10
    · obtain ⟨p1, p2, p3, p4⟩ := quo_parts (y := y) (p := p) hz
      have mz := quoM_lt (P := P) d1 d2 hp2
      have nz := quoN_lt (P := P) d1 d2 hp1
      have hN := quoN_pos (x := x) (p := p) hy0
      have c6 := Lib.hid fun W => rShift_any (mag (dm (x))) (neg (dm (x))) (de (x) + p - min (de (x) + p) (de (y))) W (Nat.le_trans nX.size (by decide)) (by omega)
      have nY := nd_db d2 (by omega)
      have c7 := Lib.hid fun W => rShift_any (mag (dm (y))) (neg (dm (y))) (de (y) - min (de (x) + p) (de (y))) W (Nat.le_trans nY.size (by decide)) (by omega)
      rw [ival_mk, p3] at c6
      rw [ival_mk, p4] at c7
      rw [p1, p2] at c4 c5
      obtain ⟨a1, a2⟩ := quo_ref (x) p hy0
      generalize quoM (x) (y) p = M at *
      generalize quoN (x) (y) p = N at *
      have s1 := mag_two mz
      have s2 := mag_two nz
      have c8 := Lib.hid fun W => rWDiv_any (mag M) (mag N) (neg M) (neg N) W (by omega) (by omega)
      rw [if_neg (by intro h; have := ival_mk N; rw [h] at this; unfold ival at this; split at this <;> omega), ival_mk, ival_mk] at c8
      have s3 : (mag (M / N)).size ≤ (2 * (L + T0) + P) / 8 + 1 := mag_two (Nat.lt_of_le_of_lt (Int.natAbs_ediv_le_natAbs _ _) mz)
      have s4 : (mag (M % N)).size ≤ (2 * (L + T0) + P) / 8 + 1 := mag_two (Nat.lt_of_le_of_lt (by have := Int.emod_nonneg M (Int.ne_of_gt hN); have := Int.emod_lt_of_pos M hN; omega) nz)
      have c9 := Lib.hid fun W => rMake_any (mag (M / N)) (neg (M / N)) (-p) W (by omega) (by omega) (by omega)
      rw [ival_mk] at c9
      have c10 := Lib.hid fun W => rWSign_any (mag (M % N)) (neg (M % N)) W (by omega)
      rw [ival_mk] at c10
      have hs2 : ¬ dsgn (dy (dm (x)) (de (x) + p)) = 0 := fun h => hz (by
        have h1 := dsgn_eq.1 h
        have h2 := congrArg dm h1
        rw [p2] at h2
        exact dm_zero.1 h2)
      have k1 := Lib.hid (show IntKind.i64.wrap (de (x) + p - min (de (x) + p) (de (y))) = de (x) + p - min (de (x) + p) (de (y)) from IntWalk.i64_in _ (by omega))
      have k2 := Lib.hid (show IntKind.i64.wrap (de (y) - min (de (x) + p) (de (y))) = de (y) - min (de (x) + p) (de (y)) from IntWalk.i64_in _ (by omega))
      rw [a1, a2]
      by_cases hr : M % N = 0
      · rw [if_pos hr]
        rw [hr] at c8 c10
        exact rsQuo_pv _ _ _ _ _ _ _ _ _ _ _ _ _ _ _ _ _ _ _ _ _ _ _ _ _ _ _ _ _ _ _ _ _ _ hs hs2 (show sgn 0 = 0 from rfl) k1 k2 np w (rdForm_nd n1) (rdForm_nd n2) c3 c4 c5 c6 c7 c8 c9 c10
      · rw [if_neg hr]
        have c11 := Lib.hid fun W => rWOf_any 1 W (by decide) (by decide)
        have c12 := Lib.hid fun W => rPlusW_any (mag (M / N)) (mag 1) (neg (M / N)) (neg 1) W (by omega) (by decide)
        rw [ival_mk, ival_mk] at c12
        have s5 : (mag (M / N + 1)).size ≤ (2 * (L + T0) + P + 1) / 8 + 1 := mag_two (by
          have h1 := Nat.lt_of_le_of_lt (Int.natAbs_ediv_le_natAbs M N) mz
          rw [Nat.pow_succ]; omega)
        have c13 := Lib.hid fun W => rMake_any (mag (M / N + 1)) (neg (M / N + 1)) (-p) W (by omega) (by omega) (by omega)
        rw [ival_mk] at c13
        exact rsQuo_pvr _ _ _ _ _ _ _ _ _ _ _ _ _ _ _ _ _ _ _ _ _ _ _ _ _ _ _ _ _ _ _ _ _ _ _ _ _ _ _ _ _ hs hs2 (fun h => hr (sgn_eq.1 h)) k1 k2 np w (rdForm_nd n1) (rdForm_nd n2) c3 c4 c5 c6 c7 c8 c9 c10 c11 c12 c13
  · have hs : dsgn y < 0 := by omega
    have hy1 : 0 < -y := by grind
    have eq1 : quoD x y p = quoD (-x) (-y) p := (quoD_neg p hy).symm
    have eq2 : quoU x y p = quoU (-x) (-y) p := by unfold quoU; rw [quoD_neg p hy]
    rw [eq1, eq2]
    have dz : DB (L + P) (T0 + P) (dy (dm (-x)) (de (-x) + p)) := db_shift (db_neg d1) p (by omega) (by omega)
    have f1 := db_form (db_neg d1)
    have f2 := db_form (db_neg d2)
    have nX := nd_db (db_neg d1) (by omega)
    have c4 := Lib.hid fun W => rdShift_any (mag (dm (-x))) (neg (dm (-x))) (de (-x)) p W (Nat.le_trans nX.size (by decide)) (by omega) (by omega)
    rw [ival_mk] at c4
    have c5 := rdSign_vn dz (by omega)
    have np := Lib.hid (show IntKind.i64.wrap (-p) = -p from IntWalk.i64_in _ (by omega))
    by_cases hz : -x = 0
    · have ez : dy (dm (-x)) (de (-x) + p) = 0 := by rw [dm_zero.2 hz, dy_zero]
      rw [ez] at c4 c5
      have c6 := Lib.hid fun W => rShift_any (mag (dm (0 : Dyadic))) (neg (dm (0 : Dyadic))) 0 W (by decide) (by decide)
      have nY := nd_db (db_neg d2) (by omega)
      have c7 := Lib.hid fun W => rShift_any (mag (dm (-y))) (neg (dm (-y))) 0 W (Nat.le_trans nY.size (by decide)) (by decide)
      rw [ival_mk] at c6 c7
      have e0 : ∀ z : Int, shiftI z 0 = z := fun z => by unfold shiftI; rw [if_pos (by decide)]; simp
      rw [e0] at c6 c7
      have c8 := Lib.hid fun W => rWDiv_any (mag (dm (0 : Dyadic))) (mag (dm (-y))) (neg (dm (0 : Dyadic))) (neg (dm (-y))) W (by decide) (Nat.le_trans nY.size (by decide))
      have hm : dm (-y) ≠ 0 := fun h => by have := dm_zero.1 h; grind
      rw [if_neg (by intro h; apply hm; have := ival_mk (dm (-y)); rw [h] at this; unfold ival at this; split at this <;> omega), ival_mk, ival_mk, show dm (0 : Dyadic) = 0 from rfl, Int.zero_ediv, Int.zero_emod] at c8
      have c9 := Lib.hid fun W => rMake_any (mag 0) (neg 0) (-p) W (by decide) (by omega) (by omega)
      rw [ival_mk, dy_zero] at c9
      have c10 := Lib.hid fun W => rWSign_any (mag 0) (neg 0) W (by decide)
      rw [ival_mk] at c10
      have q0 : quoD (-x) (-y) p = 0 ∧ quoU (-x) (-y) p = 0 := by
        obtain ⟨a1, a2⟩ := quo_ref (-x) p hy1
        have m0 : quoM (-x) (-y) p = 0 := by unfold quoM; rw [dm_zero.2 hz]; split <;> simp
        rw [m0, Int.zero_ediv] at a1 a2
        rw [Int.zero_emod, if_pos rfl] at a2
        rw [a1, a2, dy_zero]; exact ⟨rfl, rfl⟩
      rw [q0.1, q0.2]
      exact rsQuo_nz _ _ _ _ _ _ _ _ _ _ _ _ _ _ _ _ _ _ _ _ _ _ _ _ _ _ _ _ _ _ _ _ _ _ _ _ _ _ _ _ hs (dsgn_eq.2 rfl) (show sgn 0 = 0 from rfl) (Lib.hid rfl) (Lib.hid rfl) np w (rdForm_nd n1) (rdForm_nd n2) c3 (rdNeg_vn d1 (by omega)) (rdNeg_vn d2 (by omega)) c4 c5 c6 c7 c8 c9 c10
    · obtain ⟨p1, p2, p3, p4⟩ := quo_parts (y := -y) (p := p) hz
      have mz := quoM_lt (P := P) (db_neg d1) (db_neg d2) hp2
      have nz := quoN_lt (P := P) (db_neg d1) (db_neg d2) hp1
      have hN := quoN_pos (x := -x) (p := p) hy1
      have c6 := Lib.hid fun W => rShift_any (mag (dm (-x))) (neg (dm (-x))) (de (-x) + p - min (de (-x) + p) (de (-y))) W (Nat.le_trans nX.size (by decide)) (by omega)
      have nY := nd_db (db_neg d2) (by omega)
      have c7 := Lib.hid fun W => rShift_any (mag (dm (-y))) (neg (dm (-y))) (de (-y) - min (de (-x) + p) (de (-y))) W (Nat.le_trans nY.size (by decide)) (by omega)
      rw [ival_mk, p3] at c6
      rw [ival_mk, p4] at c7
      rw [p1, p2] at c4 c5
      obtain ⟨a1, a2⟩ := quo_ref (-x) p hy1
      generalize quoM (-x) (-y) p = M at *
      generalize quoN (-x) (-y) p = N at *
      have s1 := mag_two mz
      have s2 := mag_two nz
      have c8 := Lib.hid fun W => rWDiv_any (mag M) (mag N) (neg M) (neg N) W (by omega) (by omega)
      rw [if_neg (by intro h; have := ival_mk N; rw [h] at this; unfold ival at this; split at this <;> omega), ival_mk, ival_mk] at c8
      have s3 : (mag (M / N)).size ≤ (2 * (L + T0) + P) / 8 + 1 := mag_two (Nat.lt_of_le_of_lt (Int.natAbs_ediv_le_natAbs _ _) mz)
      have s4 : (mag (M % N)).size ≤ (2 * (L + T0) + P) / 8 + 1 := mag_two (Nat.lt_of_le_of_lt (by have := Int.emod_nonneg M (Int.ne_of_gt hN); have := Int.emod_lt_of_pos M hN; omega) nz)
      have c9 := Lib.hid fun W => rMake_any (mag (M / N)) (neg (M / N)) (-p) W (by omega) (by omega) (by omega)
      rw [ival_mk] at c9
      have c10 := Lib.hid fun W => rWSign_any (mag (M % N)) (neg (M % N)) W (by omega)
      rw [ival_mk] at c10
      have hs2 : ¬ dsgn (dy (dm (-x)) (de (-x) + p)) = 0 := fun h => hz (by
        have h1 := dsgn_eq.1 h
        have h2 := congrArg dm h1
        rw [p2] at h2
        exact dm_zero.1 h2)
      have k1 := Lib.hid (show IntKind.i64.wrap (de (-x) + p - min (de (-x) + p) (de (-y))) = de (-x) + p - min (de (-x) + p) (de (-y)) from IntWalk.i64_in _ (by omega))
      have k2 := Lib.hid (show IntKind.i64.wrap (de (-y) - min (de (-x) + p) (de (-y))) = de (-y) - min (de (-x) + p) (de (-y)) from IntWalk.i64_in _ (by omega))
      rw [a1, a2]
      by_cases hr : M % N = 0
      · rw [if_pos hr]
        rw [hr] at c8 c10
        exact rsQuo_nv _ _ _ _ _ _ _ _ _ _ _ _ _ _ _ _ _ _ _ _ _ _ _ _ _ _ _ _ _ _ _ _ _ _ _ _ _ _ _ _ hs hs2 (show sgn 0 = 0 from rfl) k1 k2 np w (rdForm_nd n1) (rdForm_nd n2) c3 (rdNeg_vn d1 (by omega)) (rdNeg_vn d2 (by omega)) c4 c5 c6 c7 c8 c9 c10
      · rw [if_neg hr]
        have c11 := Lib.hid fun W => rWOf_any 1 W (by decide) (by decide)
        have c12 := Lib.hid fun W => rPlusW_any (mag (M / N)) (mag 1) (neg (M / N)) (neg 1) W (by omega) (by decide)
        rw [ival_mk, ival_mk] at c12
        have s5 : (mag (M / N + 1)).size ≤ (2 * (L + T0) + P + 1) / 8 + 1 := mag_two (by
          have h1 := Nat.lt_of_le_of_lt (Int.natAbs_ediv_le_natAbs M N) mz
          rw [Nat.pow_succ]; omega)
        have c13 := Lib.hid fun W => rMake_any (mag (M / N + 1)) (neg (M / N + 1)) (-p) W (by omega) (by omega) (by omega)
        rw [ival_mk] at c13
        exact rsQuo_nvr _ _ _ _ _ _ _ _ _ _ _ _ _ _ _ _ _ _ _ _ _ _ _ _ _ _ _ _ _ _ _ _ _ _ _ _ _ _ _ _ _ _ _ _ _ _ _ hs hs2 (fun h => hr (sgn_eq.1 h)) k1 k2 np w (rdForm_nd n1) (rdForm_nd n2) c3 (rdNeg_vn d1 (by omega)) (rdNeg_vn d2 (by omega)) c4 c5 c6 c7 c8 c9 c10 c11 c12 c13

theorem rdS4B {w : World} {g : Nat} {l1 l2 l3 l4 u1 u2 u3 u4 : Dyadic} (h : Bx w g 27 #[.bool (neg (dm (l1))), .string (mag (dm (l1))), .int .i64 (de (l1)), .bool (neg (dm (u1))), .string (mag (dm (u1))), .int .i64 (de (u1)), .bool (neg (dm (l2))), .string (mag (dm (l2))), .int .i64 (de (l2)), .bool (neg (dm (u2))), .string (mag (dm (u2))), .int .i64 (de (u2)), .bool (neg (dm (l3))), .string (mag (dm (l3))), .int .i64 (de (l3)), .bool (neg (dm (u3))), .string (mag (dm (u3))), .int .i64 (de (u3)), .bool (neg (dm (l4))), .string (mag (dm (l4))), .int .i64 (de (l4)), .bool (neg (dm (u4))), .string (mag (dm (u4))), .int .i64 (de (u4))]) : RdS w (some ⟨g, 0, none⟩) 4 (fun j => neg (dm (four4 l1 l2 l3 l4 j))) (fun j => mag (dm (four4 l1 l2 l3 l4 j))) (fun j => de (four4 l1 l2 l3 l4 j)) (fun j => neg (dm (four4 u1 u2 u3 u4 j))) (fun j => mag (dm (four4 u1 u2 u3 u4 j))) (fun j => de (four4 u1 u2 u3 u4 j)) := fun _ =>
  ⟨g, 0, rfl, fun j hj => by
    have : j = 0 ∨ j = 1 ∨ j = 2 ∨ j = 3 := by omega
    rcases this with rfl | rfl | rfl | rfl
    · exact ⟨h.cel 0, h.cel 1, h.cel 2, h.cel 3, h.cel 4, h.cel 5⟩
    · exact ⟨h.cel 6, h.cel 7, h.cel 8, h.cel 9, h.cel 10, h.cel 11⟩
    · exact ⟨h.cel 12, h.cel 13, h.cel 14, h.cel 15, h.cel 16, h.cel 17⟩
    · exact ⟨h.cel 18, h.cel 19, h.cel 20, h.cel 21, h.cel 22, h.cel 23⟩⟩
theorem rsDiv_any {b c : Bool} {s t : ByteArray} {e f : Int} {x y : Dyadic} {L T0 P : Nat} {b' c' : Bool} {s' t' : ByteArray} {e' f' : Int} {x' y' : Dyadic} (p : Int) (n1 : ND b s e x) (n2 : ND c t f y) (d1 : DB L T0 x) (d2 : DB L T0 y) (m1 : ND b' s' e' x') (m2 : ND c' t' f' y') (k1 : DB L T0 x') (k2 : DB L T0 y') (hLT : 2 * (L + T0) + 3 * P ≤ 1000000) (hp1 : -(P : Int) ≤ p) (hp2 : p ≤ P) (w : World) :
    Calls Tryz.prog 27 #[.agg #[.bool b, .string s, .int .i64 e, .bool c, .string t, .int .i64 f], .agg #[.bool b', .string s', .int .i64 e', .bool c', .string t', .int .i64 f'], .int .i64 (p)] w fun r w' => r = .returned (if hasB x' y' 0 = true then .tuple #[.agg #[.bool false, .string ⟨#[]⟩, .int .i64 0, .bool false, .string ⟨#[]⟩, .int .i64 0], .bool false] else .tuple #[.agg #[.bool (neg (dm (dmin4 (quoD x x' p) (quoD x y' p) (quoD y x' p) (quoD y y' p)))), .string (mag (dm (dmin4 (quoD x x' p) (quoD x y' p) (quoD y x' p) (quoD y y' p)))), .int .i64 (de (dmin4 (quoD x x' p) (quoD x y' p) (quoD y x' p) (quoD y y' p))), .bool (neg (dm (dmax4 (quoU x x' p) (quoU x y' p) (quoU y x' p) (quoU y y' p)))), .string (mag (dm (dmax4 (quoU x x' p) (quoU x y' p) (quoU y x' p) (quoU y y' p)))), .int .i64 (de (dmax4 (quoU x x' p) (quoU x y' p) (quoU y x' p) (quoU y y' p)))], .bool true]) ∧ Below w.heap.size w w' := by
  have cH := Lib.hid (fun W => rsHas_any m1 m2 k1 k2 nd_zero0 (db_zero _ _) (by omega) W)
  cases hb : hasB x' y' 0
  · rw [if_neg (by decide)]
    rw [hb] at cH
    obtain ⟨hx', hy', _⟩ := has_no hb
    have dq : ∀ {u v : Dyadic}, DB L T0 u → DB L T0 v → DB P (2 * (L + T0) + 2 * P) (quoD u v p) := fun h1 h2 => db_quo h1 h2 hp1 hp2
    have du : ∀ {u v : Dyadic}, DB L T0 u → DB L T0 v → DB P (2 * (L + T0) + 2 * P) (quoU u v p) := fun h1 h2 => db_quoU h1 h2 hp1 hp2
    have c5 := Lib.hid (fun g W (hx : Bx W g 27 #[.bool (neg (dm (quoD x x' p))), .string (mag (dm (quoD x x' p))), .int .i64 (de (quoD x x' p)), .bool (neg (dm (quoU x x' p))), .string (mag (dm (quoU x x' p))), .int .i64 (de (quoU x x' p)), .bool (neg (dm (quoD x y' p))), .string (mag (dm (quoD x y' p))), .int .i64 (de (quoD x y' p)), .bool (neg (dm (quoU x y' p))), .string (mag (dm (quoU x y' p))), .int .i64 (de (quoU x y' p)), .bool (neg (dm (quoD y x' p))), .string (mag (dm (quoD y x' p))), .int .i64 (de (quoD y x' p)), .bool (neg (dm (quoU y x' p))), .string (mag (dm (quoU y x' p))), .int .i64 (de (quoU y x' p)), .bool (neg (dm (quoD y y' p))), .string (mag (dm (quoD y y' p))), .int .i64 (de (quoD y y' p)), .bool (neg (dm (quoU y y' p))), .string (mag (dm (quoU y y' p))), .int .i64 (de (quoU y y' p))]) => rsHull_any _ 4 4 _ _ _ _ _ _ _ _ P (2 * (L + T0) + 2 * P) W (by decide) (fun j => nd_db (db_four (dq d1 k1) (dq d1 k2) (dq d2 k1) (dq d2 k2) j) (by omega)) (fun j => nd_db (db_four (du d1 k1) (du d1 k2) (du d2 k1) (du d2 k2) j) (by omega)) (rdS4B hx) (db_four (dq d1 k1) (dq d1 k2) (dq d2 k1) (dq d2 k2)) (db_four (du d1 k1) (du d1 k2) (du d2 k1) (du d2 k2)) (by omega))
    obtain ⟨h1, h2⟩ := hull8 (quo_lo_hi (x := x) p hx') (quo_lo_hi (x := x) p hy') (quo_lo_hi (x := y) p hx') (quo_lo_hi (x := y) p hy')
    rw [show 2 * 4 = 8 from rfl, h1, h2] at c5
    exact rsDiv_some _ _ _ _ _ _ _ _ _ _ _ _ _ _ _ _ _ _ _ _ _ _ _ _ _ _ _ _ _ _ _ _ _ _ _ _ _ _ _ _ _ _ _ w cH (Lib.hid fun W => rsQuo_any p n1 m1 d1 k1 hLT hp1 hp2 hx' W) (Lib.hid fun W => rsQuo_any p n1 m2 d1 k2 hLT hp1 hp2 hy' W) (Lib.hid fun W => rsQuo_any p n2 m1 d2 k1 hLT hp1 hp2 hx' W) (Lib.hid fun W => rsQuo_any p n2 m2 d2 k2 hLT hp1 hp2 hy' W) c5
  · rw [if_pos rfl]
    rw [hb] at cH
    exact rsDiv_zero _ _ _ _ _ _ _ _ _ _ _ _ _ w cH

end Go.Proofs.YtchfglbkiebfpaaGreatDoor

namespace Go.Proofs.YtchfglbkiebfpaaGreatDoor
open Go.RowKit

set_option maxRecDepth 100000 in
set_option maxHeartbeats 1000000 in
theorem lNum_x (xM : Bool) (xS : ByteArray) (xE : Int) (oM : Bool) (oS : ByteArray) (m e : Int) (w : World)
    (c1 : Hid (∀ (W : World), Calls Tryz.prog 88 #[.int .i64 (m)] W fun r w' => r = .returned (.agg #[.bool oM, .string oS]) ∧ Below W.heap.size W w'))
    (c2 : Hid (∀ (W : World), Calls Tryz.prog 86 #[.agg #[.bool oM, .string oS], .int .i64 (e)] W fun r w' => r = .returned (.agg #[.bool xM, .string xS, .int .i64 xE]) ∧ Below W.heap.size W w'))
    :
    Calls Tryz.prog 71 #[.int .i64 (m), .int .i64 (e)] w fun r w' => r = .returned (.agg #[.bool xM, .string xS, .int .i64 xE]) ∧ Below w.heap.size w w' := by
  go_enter Tryz.func71, Tryz.ntmps71
  go_upto_region 1 with (fail)
  have X1 := Bx.new w 25 #[.bool false, .string ⟨#[]⟩, .int .i64 0]
  have hB := b1 w (.cells #[.bool false, .string ⟨#[]⟩, .int .i64 0] 25)
  generalize w.alloc (.cells #[.bool false, .string ⟨#[]⟩, .int .i64 0] 25) = w0 at *
  go_wp2_with fail
  refine (c1.out _).mono ?_
  rintro e w1 ⟨rfl, hb⟩
  replace X1 := X1.later hb
  replace hB := nxt hB hb
  clear hb
  go_wp2_with fail
  refine (c2.out _).mono ?_
  rintro e w2 ⟨rfl, hb⟩
  replace X1 := X1.later hb
  replace hB := nxt hB hb
  clear hb
  obtain ⟨c1_0, c1_1, c1_2, c1_3, c1_4, c1_5⟩ := X1.k3
  replace X1 := Bx.stores [.bool xM, .string xS, .int .i64 xE] 0 X1
  replace hB := stN (Nat.le_refl _) [.bool xM, .string xS, .int .i64 xE] 0 hB
  simp only [setN, Nat.reduceAdd] at  hB
  simp only [setN, putN, Nat.reduceAdd, List.setIfInBounds_toArray, List.set_cons_zero, List.set_cons_succ] at X1
  obtain ⟨c2_0, c2_1, c2_2, _, _, _⟩ := X1.k3
  go_wp2_with fail
  clear c1_0 c1_1 c1_2 c1_3 c1_4 c1_5 c2_0 c2_1 c2_2
  exact bodyPost_ret (v := .agg #[.bool xM, .string xS, .int .i64 xE]) (by simp [results, Tryz.results71, go_sem, X1.cel]) rfl ⟨rfl, hB⟩

set_option maxRecDepth 100000 in
set_option maxHeartbeats 1000000 in
theorem lTo_x (xM yM : Bool) (xS yS : ByteArray) (xE yE : Int) (m k : Int) (w : World)
    (c1 : Hid (∀ (W : World), Calls Tryz.prog 71 #[.int .i64 (m), .int .i64 0] W fun r w' => r = .returned (.agg #[.bool xM, .string xS, .int .i64 xE]) ∧ Below W.heap.size W w'))
    (c2 : Hid (∀ (W : World), Calls Tryz.prog 71 #[.int .i64 (k), .int .i64 0] W fun r w' => r = .returned (.agg #[.bool yM, .string yS, .int .i64 yE]) ∧ Below W.heap.size W w'))
    :
    Calls Tryz.prog 70 #[.int .i64 (m), .int .i64 (k)] w fun r w' => r = .returned (.agg #[.bool xM, .string xS, .int .i64 xE, .bool yM, .string yS, .int .i64 yE]) ∧ Below w.heap.size w w' := by
  go_enter Tryz.func70, Tryz.ntmps70
  go_upto_region 1 with (fail)
  have X1 := Bx.new w 27 #[.bool false, .string ⟨#[]⟩, .int .i64 0, .bool false, .string ⟨#[]⟩, .int .i64 0]
  have hB := b1 w (.cells #[.bool false, .string ⟨#[]⟩, .int .i64 0, .bool false, .string ⟨#[]⟩, .int .i64 0] 27)
  generalize w.alloc (.cells #[.bool false, .string ⟨#[]⟩, .int .i64 0, .bool false, .string ⟨#[]⟩, .int .i64 0] 27) = w0 at *
  go_wp2_with fail
  refine (c1.out _).mono ?_
  rintro e w1 ⟨rfl, hb⟩
  replace X1 := X1.later hb
  replace hB := nxt hB hb
  clear hb
  go_wp2_with fail
  refine (c2.out _).mono ?_
  rintro e w2 ⟨rfl, hb⟩
  replace X1 := X1.later hb
  replace hB := nxt hB hb
  clear hb
  obtain ⟨c1_0, c1_1, c1_2, c1_3, c1_4, c1_5, c1_6, c1_7, c1_8, c1_9, c1_10, c1_11⟩ := X1.k6
  replace X1 := Bx.stores [.bool xM, .string xS, .int .i64 xE, .bool yM, .string yS, .int .i64 yE] 0 X1
  replace hB := stN (Nat.le_refl _) [.bool xM, .string xS, .int .i64 xE, .bool yM, .string yS, .int .i64 yE] 0 hB
  simp only [setN, Nat.reduceAdd] at  hB
  simp only [setN, putN, Nat.reduceAdd, List.setIfInBounds_toArray, List.set_cons_zero, List.set_cons_succ] at X1
  obtain ⟨c2_0, c2_1, c2_2, c2_3, c2_4, c2_5, _, _, _, _, _, _⟩ := X1.k6
  go_wp2_with fail
  clear c1_0 c1_1 c1_2 c1_3 c1_4 c1_5 c1_6 c1_7 c1_8 c1_9 c1_10 c1_11 c2_0 c2_1 c2_2 c2_3 c2_4 c2_5
  exact bodyPost_ret (v := .agg #[.bool xM, .string xS, .int .i64 xE, .bool yM, .string yS, .int .i64 yE]) (by simp [results, Tryz.results70, go_sem, X1.cel]) rfl ⟨rfl, hB⟩

theorem lNum_any (m e : Int) (w : World) (h1 : -9223372036854775808 ≤ m) (h2 : m ≤ 9223372036854775807) (h3 : -1000 ≤ e) (h4 : e ≤ 1000) :
    Calls Tryz.prog 71 #[.int .i64 (m), .int .i64 (e)] w fun r w' => r = .returned (.agg #[.bool (neg (dm (dy m e))), .string (mag (dm (dy m e))), .int .i64 (de (dy m e))]) ∧ Below w.heap.size w w' := by
  have c2 := Lib.hid fun W => rMake_any (mag m) (neg m) e W (Nat.le_trans (mag_two (k := 64) (show m.natAbs < 2 ^ 64 by omega)) (by decide)) (by omega) (by omega)
  rw [ival_mk] at c2
  exact lNum_x _ _ _ _ _ _ _ w (Lib.hid fun W => rWOf_any m W h1 h2) c2
theorem lTo_any (m k : Int) (w : World) (h1 : -9223372036854775808 ≤ m) (h2 : m ≤ 9223372036854775807) (h3 : -9223372036854775808 ≤ k) (h4 : k ≤ 9223372036854775807) :
    Calls Tryz.prog 70 #[.int .i64 (m), .int .i64 (k)] w fun r w' => r = .returned (.agg #[.bool (neg (dm (dy m 0))), .string (mag (dm (dy m 0))), .int .i64 (de (dy m 0)), .bool (neg (dm (dy k 0))), .string (mag (dm (dy k 0))), .int .i64 (de (dy k 0))]) ∧ Below w.heap.size w w' := by
  exact lTo_x _ _ _ _ _ _ _ _ w (Lib.hid fun W => lNum_any m 0 W h1 h2 (by decide) (by decide)) (Lib.hid fun W => lNum_any k 0 W h3 h4 (by decide) (by decide))

theorem sMeet_any {b c : Bool} {s t : ByteArray} {e f : Int} {x y : Dyadic} {L T0 : Nat} {b' c' : Bool} {s' t' : ByteArray} {e' f' : Int} {x' y' : Dyadic} (w : World) (n1 : ND b s e x) (n2 : ND c t f y) (d1 : DB L T0 x) (d2 : DB L T0 y) (m1 : ND b' s' e' x') (m2 : ND c' t' f' y') (k1 : DB L T0 x') (k2 : DB L T0 y') (hLT : L + T0 ≤ 2900000) (hT : TabAt 0 Lib.deBruijn64tab w) :
    Calls Tryz.prog 30 #[.agg #[.bool b, .string s, .int .i64 e, .bool c, .string t, .int .i64 f], .agg #[.bool b', .string s', .int .i64 e', .bool c', .string t', .int .i64 f']] w fun r w' => r = .returned (if 0 < dsgn (dmax (dmin x y) (dmin x' y') - dmin (dmax x y) (dmax x' y')) then .tuple #[.agg #[.bool false, .string ⟨#[]⟩, .int .i64 0, .bool false, .string ⟨#[]⟩, .int .i64 0], .int .i64 4] else .tuple #[.agg #[.bool (neg (dm (dmax (dmin x y) (dmin x' y')))), .string (mag (dm (dmax (dmin x y) (dmin x' y')))), .int .i64 (de (dmax (dmin x y) (dmin x' y'))), .bool (neg (dm (dmin (dmax x y) (dmax x' y')))), .string (mag (dm (dmin (dmax x y) (dmax x' y')))), .int .i64 (de (dmin (dmax x y) (dmax x' y')))], .int .i64 0]) ∧ Below w.heap.size w w' := by
  have i1 := db_dmin d1 d2
  have i2 := db_dmax d1 d2
  have j1 := db_dmin k1 k2
  have j2 := db_dmax k1 k2
  have lo := db_dmax i1 j1
  have hi := db_dmin i2 j2
  have c1 := Lib.hid fun W h => sof_any W n1 n2 h
  have c2 := Lib.hid fun W h => sof_any W m1 m2 h
  have c3 := Lib.hid fun g W h (hx : Bx W g 25 #[.bool (neg (dm (dmin x y))), .string (mag (dm (dmin x y))), .int .i64 (de (dmin x y)), .bool (neg (dm (dmin x' y'))), .string (mag (dm (dmin x' y'))), .int .i64 (de (dmin x' y'))]) => dMax2N (nd_db i1 (by omega)) (nd_db j1 (by omega)) h hx
  have c4 := Lib.hid fun g W h (hx : Bx W g 25 #[.bool (neg (dm (dmax x y))), .string (mag (dm (dmax x y))), .int .i64 (de (dmax x y)), .bool (neg (dm (dmax x' y'))), .string (mag (dm (dmax x' y'))), .int .i64 (de (dmax x' y'))]) => dMin2N (nd_db i2 (by omega)) (nd_db j2 (by omega)) h hx
  have c5 := Lib.hid fun W h => dCmp_any W (nd_db lo (by omega)) (nd_db hi (by omega)) h
  split
  · rename_i hz
    exact sMeet_none _ _ _ _ _ _ _ _ _ _ _ _ _ _ _ _ _ _ _ w hz hT c1 c2 c3 c4 c5
  · rename_i hz
    exact sMeet_some _ _ _ _ _ _ _ _ _ _ _ _ _ _ _ _ _ _ _ w hz hT c1 c2 c3 c4 c5
theorem rdN3B {w : World} {g : Nat} {b1 b2 b3 : Bool} {s1 s2 s3 : ByteArray} {e1 e2 e3 : Int} {t : TypeId} (h : Bx w g t #[.bool b1, .string s1, .int .i64 e1, .bool b2, .string s2, .int .i64 e2, .bool b3, .string s3, .int .i64 e3]) : RdN w (some ⟨g, 0, none⟩) 3 (fun j => if j = 0 then b1 else if j = 1 then b2 else b3) (fun j => if j = 0 then s1 else if j = 1 then s2 else s3) (fun j => if j = 0 then e1 else if j = 1 then e2 else e3) := fun _ =>
  ⟨g, 0, rfl, fun j hj => by
    have : j = 0 ∨ j = 1 ∨ j = 2 := by omega
    rcases this with rfl | rfl | rfl
    · exact ⟨h.cel 0, h.cel 1, h.cel 2⟩
    · exact ⟨h.cel 3, h.cel 4, h.cel 5⟩
    · exact ⟨h.cel 6, h.cel 7, h.cel 8⟩⟩
theorem rdS2B {w : World} {g : Nat} {b1 b2 c1 c2 : Bool} {s1 s2 t1 t2 : ByteArray} {e1 e2 f1 f2 : Int} {t : TypeId} (h : Bx w g t #[.bool b1, .string s1, .int .i64 e1, .bool c1, .string t1, .int .i64 f1, .bool b2, .string s2, .int .i64 e2, .bool c2, .string t2, .int .i64 f2]) :
    RdS w (some ⟨g, 0, none⟩) 2 (fun j => if j = 0 then b1 else b2) (fun j => if j = 0 then s1 else s2) (fun j => if j = 0 then e1 else e2) (fun j => if j = 0 then c1 else c2) (fun j => if j = 0 then t1 else t2) (fun j => if j = 0 then f1 else f2) := fun _ =>
  ⟨g, 0, rfl, fun j hj => by
    have : j = 0 ∨ j = 1 := by omega
    rcases this with rfl | rfl
    · exact ⟨h.cel 0, h.cel 1, h.cel 2, h.cel 3, h.cel 4, h.cel 5⟩
    · exact ⟨h.cel 6, h.cel 7, h.cel 8, h.cel 9, h.cel 10, h.cel 11⟩⟩

end Go.Proofs.YtchfglbkiebfpaaGreatDoor

namespace Go.Proofs.YtchfglbkiebfpaaGreatDoor
open Go Go.RowKit

theorem sk1 (W : World) : Calls Tryz.prog 70 #[.int .i64 0, .int .i64 1] W fun r w' => r = .returned (.agg #[.bool false, .string ⟨#[]⟩, .int .i64 0, .bool false, .string ⟨#[1]⟩, .int .i64 0]) ∧ Below W.heap.size W w' :=
  (lTo_any (0) (1) W (by decide) (by decide) (by decide) (by decide)).mono fun _ _ ⟨he, hb⟩ => ⟨he.trans (congrArg Ending.returned (by kernel_rfl)), hb⟩
theorem sk2 (W : World) : Calls Tryz.prog 70 #[.int .i64 1, .int .i64 4] W fun r w' => r = .returned (.agg #[.bool false, .string ⟨#[1]⟩, .int .i64 0, .bool false, .string ⟨#[1]⟩, .int .i64 2]) ∧ Below W.heap.size W w' :=
  (lTo_any (1) (4) W (by decide) (by decide) (by decide) (by decide)).mono fun _ _ ⟨he, hb⟩ => ⟨he.trans (congrArg Ending.returned (by kernel_rfl)), hb⟩
theorem sk3 (W : World) (hT : TabAt 0 Lib.deBruijn64tab W) : Calls Tryz.prog 30 #[.agg #[.bool false, .string ⟨#[]⟩, .int .i64 0, .bool false, .string ⟨#[1]⟩, .int .i64 0], .agg #[.bool false, .string ⟨#[1]⟩, .int .i64 0, .bool false, .string ⟨#[1]⟩, .int .i64 2]] W fun r w' => r = .returned (.tuple #[.agg #[.bool false, .string ⟨#[1]⟩, .int .i64 0, .bool false, .string ⟨#[1]⟩, .int .i64 0], .int .i64 0]) ∧ Below W.heap.size W w' :=
  (sMeet_any W (show ND false ⟨#[]⟩ 0 (dy 0 0) from ⟨by kernel_rfl, by decide, by decide, by decide⟩) (show ND false ⟨#[1]⟩ 0 (dy 1 0) from ⟨by kernel_rfl, by decide, by decide, by decide⟩) (show DB 10 10 (dy 0 0) from ⟨0, by kernel_rfl, by decide⟩) (show DB 10 10 (dy 1 0) from ⟨1024, by kernel_rfl, by decide⟩) (show ND false ⟨#[1]⟩ 0 (dy 1 0) from ⟨by kernel_rfl, by decide, by decide, by decide⟩) (show ND false ⟨#[1]⟩ 2 (dy 1 2) from ⟨by kernel_rfl, by decide, by decide, by decide⟩) (show DB 10 10 (dy 1 0) from ⟨1024, by kernel_rfl, by decide⟩) (show DB 10 10 (dy 1 2) from ⟨4096, by kernel_rfl, by decide⟩) (by decide) hT).mono fun _ _ ⟨he, hb⟩ => ⟨he.trans (congrArg Ending.returned (by kernel_rfl)), hb⟩
theorem sk4 (W : World) : Calls Tryz.prog 70 #[.int .i64 3, .int .i64 4] W fun r w' => r = .returned (.agg #[.bool false, .string ⟨#[3]⟩, .int .i64 0, .bool false, .string ⟨#[1]⟩, .int .i64 2]) ∧ Below W.heap.size W w' :=
  (lTo_any (3) (4) W (by decide) (by decide) (by decide) (by decide)).mono fun _ _ ⟨he, hb⟩ => ⟨he.trans (congrArg Ending.returned (by kernel_rfl)), hb⟩
theorem sk5 (W : World) (hT : TabAt 0 Lib.deBruijn64tab W) : Calls Tryz.prog 30 #[.agg #[.bool false, .string ⟨#[]⟩, .int .i64 0, .bool false, .string ⟨#[1]⟩, .int .i64 0], .agg #[.bool false, .string ⟨#[3]⟩, .int .i64 0, .bool false, .string ⟨#[1]⟩, .int .i64 2]] W fun r w' => r = .returned (.tuple #[.agg #[.bool false, .string ⟨#[]⟩, .int .i64 0, .bool false, .string ⟨#[]⟩, .int .i64 0], .int .i64 4]) ∧ Below W.heap.size W w' :=
  (sMeet_any W (show ND false ⟨#[]⟩ 0 (dy 0 0) from ⟨by kernel_rfl, by decide, by decide, by decide⟩) (show ND false ⟨#[1]⟩ 0 (dy 1 0) from ⟨by kernel_rfl, by decide, by decide, by decide⟩) (show DB 10 10 (dy 0 0) from ⟨0, by kernel_rfl, by decide⟩) (show DB 10 10 (dy 1 0) from ⟨1024, by kernel_rfl, by decide⟩) (show ND false ⟨#[3]⟩ 0 (dy 3 0) from ⟨by kernel_rfl, by decide, by decide, by decide⟩) (show ND false ⟨#[1]⟩ 2 (dy 1 2) from ⟨by kernel_rfl, by decide, by decide, by decide⟩) (show DB 10 10 (dy 3 0) from ⟨3072, by kernel_rfl, by decide⟩) (show DB 10 10 (dy 1 2) from ⟨4096, by kernel_rfl, by decide⟩) (by decide) hT).mono fun _ _ ⟨he, hb⟩ => ⟨he.trans (congrArg Ending.returned (by kernel_rfl)), hb⟩
theorem sk6 (W : World) : Calls Tryz.prog 71 #[.int .i64 1, .int .i64 0] W fun r w' => r = .returned (.agg #[.bool false, .string ⟨#[1]⟩, .int .i64 0]) ∧ Below W.heap.size W w' :=
  (lNum_any 1 0 W (by decide) (by decide) (by decide) (by decide)).mono fun _ _ ⟨he, hb⟩ => ⟨he.trans (congrArg Ending.returned (by kernel_rfl)), hb⟩
theorem sk7 (W : World) : Calls Tryz.prog 71 #[.int .i64 3, .int .i64 0] W fun r w' => r = .returned (.agg #[.bool false, .string ⟨#[3]⟩, .int .i64 0]) ∧ Below W.heap.size W w' :=
  (lNum_any 3 0 W (by decide) (by decide) (by decide) (by decide)).mono fun _ _ ⟨he, hb⟩ => ⟨he.trans (congrArg Ending.returned (by kernel_rfl)), hb⟩
theorem sk8 (W : World) (hT : TabAt 0 Lib.deBruijn64tab W) : Calls Tryz.prog 23 #[.agg #[.bool false, .string ⟨#[1]⟩, .int .i64 0], .agg #[.bool false, .string ⟨#[3]⟩, .int .i64 0], .int .i64 2] W fun r w' => r = .returned (.tuple #[.agg #[.bool false, .string ⟨#[1]⟩, .int .i64 (-2), .bool false, .string ⟨#[1]⟩, .int .i64 (-1)], .int .i64 0]) ∧ Below W.heap.size W w' :=
  (sQuo_any (P := 10) 2 W (show ND false ⟨#[1]⟩ 0 (dy 1 0) from ⟨by kernel_rfl, by decide, by decide, by decide⟩) (show ND false ⟨#[3]⟩ 0 (dy 3 0) from ⟨by kernel_rfl, by decide, by decide, by decide⟩) (show DB 10 10 (dy 1 0) from ⟨1024, by kernel_rfl, by decide⟩) (show DB 10 10 (dy 3 0) from ⟨3072, by kernel_rfl, by decide⟩) (by decide) (by decide) (by decide) hT).mono fun _ _ ⟨he, hb⟩ => ⟨he.trans (congrArg Ending.returned (by kernel_rfl)), hb⟩
theorem sk9 (W : World) : Calls Tryz.prog 71 #[.int .i64 (-1), .int .i64 0] W fun r w' => r = .returned (.agg #[.bool true, .string ⟨#[1]⟩, .int .i64 0]) ∧ Below W.heap.size W w' :=
  (lNum_any (-1) 0 W (by decide) (by decide) (by decide) (by decide)).mono fun _ _ ⟨he, hb⟩ => ⟨he.trans (congrArg Ending.returned (by kernel_rfl)), hb⟩
theorem sk10 (W : World) (hT : TabAt 0 Lib.deBruijn64tab W) : Calls Tryz.prog 23 #[.agg #[.bool true, .string ⟨#[1]⟩, .int .i64 0], .agg #[.bool false, .string ⟨#[3]⟩, .int .i64 0], .int .i64 2] W fun r w' => r = .returned (.tuple #[.agg #[.bool true, .string ⟨#[1]⟩, .int .i64 (-1), .bool true, .string ⟨#[1]⟩, .int .i64 (-2)], .int .i64 0]) ∧ Below W.heap.size W w' :=
  (sQuo_any (P := 10) 2 W (show ND true ⟨#[1]⟩ 0 (dy (-1) 0) from ⟨by kernel_rfl, by decide, by decide, by decide⟩) (show ND false ⟨#[3]⟩ 0 (dy 3 0) from ⟨by kernel_rfl, by decide, by decide, by decide⟩) (show DB 10 10 (dy (-1) 0) from ⟨-1024, by kernel_rfl, by decide⟩) (show DB 10 10 (dy 3 0) from ⟨3072, by kernel_rfl, by decide⟩) (by decide) (by decide) (by decide) hT).mono fun _ _ ⟨he, hb⟩ => ⟨he.trans (congrArg Ending.returned (by kernel_rfl)), hb⟩
theorem sk11 (W : World) : Calls Tryz.prog 71 #[.int .i64 0, .int .i64 0] W fun r w' => r = .returned (.agg #[.bool false, .string ⟨#[]⟩, .int .i64 0]) ∧ Below W.heap.size W w' :=
  (lNum_any 0 0 W (by decide) (by decide) (by decide) (by decide)).mono fun _ _ ⟨he, hb⟩ => ⟨he.trans (congrArg Ending.returned (by kernel_rfl)), hb⟩
theorem sk12 (W : World) (hT : TabAt 0 Lib.deBruijn64tab W) : Calls Tryz.prog 23 #[.agg #[.bool false, .string ⟨#[1]⟩, .int .i64 0], .agg #[.bool false, .string ⟨#[]⟩, .int .i64 0], .int .i64 2] W fun r w' => r = .returned (.tuple #[.agg #[.bool false, .string ⟨#[]⟩, .int .i64 0, .bool false, .string ⟨#[]⟩, .int .i64 0], .int .i64 1]) ∧ Below W.heap.size W w' :=
  (sQuo_any (P := 10) 2 W (show ND false ⟨#[1]⟩ 0 (dy 1 0) from ⟨by kernel_rfl, by decide, by decide, by decide⟩) (show ND false ⟨#[]⟩ 0 (dy 0 0) from ⟨by kernel_rfl, by decide, by decide, by decide⟩) (show DB 10 10 (dy 1 0) from ⟨1024, by kernel_rfl, by decide⟩) (show DB 10 10 (dy 0 0) from ⟨0, by kernel_rfl, by decide⟩) (by decide) (by decide) (by decide) hT).mono fun _ _ ⟨he, hb⟩ => ⟨he.trans (congrArg Ending.returned (by kernel_rfl)), hb⟩
theorem sk13 (W : World) : Calls Tryz.prog 70 #[.int .i64 1, .int .i64 2] W fun r w' => r = .returned (.agg #[.bool false, .string ⟨#[1]⟩, .int .i64 0, .bool false, .string ⟨#[1]⟩, .int .i64 1]) ∧ Below W.heap.size W w' :=
  (lTo_any (1) (2) W (by decide) (by decide) (by decide) (by decide)).mono fun _ _ ⟨he, hb⟩ => ⟨he.trans (congrArg Ending.returned (by kernel_rfl)), hb⟩
theorem sk14 (W : World) (hT : TabAt 0 Lib.deBruijn64tab W) : Calls Tryz.prog 26 #[.agg #[.bool false, .string ⟨#[1]⟩, .int .i64 0, .bool false, .string ⟨#[1]⟩, .int .i64 1], .agg #[.bool false, .string ⟨#[3]⟩, .int .i64 0, .bool false, .string ⟨#[1]⟩, .int .i64 2], .int .i64 1] W fun r w' => r = .returned (.tuple #[.agg #[.bool false, .string ⟨#[]⟩, .int .i64 0, .bool false, .string ⟨#[1]⟩, .int .i64 0], .int .i64 0]) ∧ Below W.heap.size W w' :=
  (sDiv_any (P := 10) 1 W (show ND false ⟨#[1]⟩ 0 (dy 1 0) from ⟨by kernel_rfl, by decide, by decide, by decide⟩) (show ND false ⟨#[1]⟩ 1 (dy 1 1) from ⟨by kernel_rfl, by decide, by decide, by decide⟩) (show DB 10 10 (dy 1 0) from ⟨1024, by kernel_rfl, by decide⟩) (show DB 10 10 (dy 1 1) from ⟨2048, by kernel_rfl, by decide⟩) (show ND false ⟨#[3]⟩ 0 (dy 3 0) from ⟨by kernel_rfl, by decide, by decide, by decide⟩) (show ND false ⟨#[1]⟩ 2 (dy 1 2) from ⟨by kernel_rfl, by decide, by decide, by decide⟩) (show DB 10 10 (dy 3 0) from ⟨3072, by kernel_rfl, by decide⟩) (show DB 10 10 (dy 1 2) from ⟨4096, by kernel_rfl, by decide⟩) (by decide) (by decide) (by decide) hT).mono fun _ _ ⟨he, hb⟩ => ⟨he.trans (congrArg Ending.returned (by kernel_rfl)), hb⟩
theorem sk15 (W : World) : Calls Tryz.prog 70 #[.int .i64 (-1), .int .i64 1] W fun r w' => r = .returned (.agg #[.bool true, .string ⟨#[1]⟩, .int .i64 0, .bool false, .string ⟨#[1]⟩, .int .i64 0]) ∧ Below W.heap.size W w' :=
  (lTo_any (-1) (1) W (by decide) (by decide) (by decide) (by decide)).mono fun _ _ ⟨he, hb⟩ => ⟨he.trans (congrArg Ending.returned (by kernel_rfl)), hb⟩
theorem sk16 (W : World) (hT : TabAt 0 Lib.deBruijn64tab W) : Calls Tryz.prog 26 #[.agg #[.bool false, .string ⟨#[1]⟩, .int .i64 0, .bool false, .string ⟨#[1]⟩, .int .i64 1], .agg #[.bool true, .string ⟨#[1]⟩, .int .i64 0, .bool false, .string ⟨#[1]⟩, .int .i64 0], .int .i64 1] W fun r w' => r = .returned (.tuple #[.agg #[.bool false, .string ⟨#[]⟩, .int .i64 0, .bool false, .string ⟨#[]⟩, .int .i64 0], .int .i64 1]) ∧ Below W.heap.size W w' :=
  (sDiv_any (P := 10) 1 W (show ND false ⟨#[1]⟩ 0 (dy 1 0) from ⟨by kernel_rfl, by decide, by decide, by decide⟩) (show ND false ⟨#[1]⟩ 1 (dy 1 1) from ⟨by kernel_rfl, by decide, by decide, by decide⟩) (show DB 10 10 (dy 1 0) from ⟨1024, by kernel_rfl, by decide⟩) (show DB 10 10 (dy 1 1) from ⟨2048, by kernel_rfl, by decide⟩) (show ND true ⟨#[1]⟩ 0 (dy (-1) 0) from ⟨by kernel_rfl, by decide, by decide, by decide⟩) (show ND false ⟨#[1]⟩ 0 (dy 1 0) from ⟨by kernel_rfl, by decide, by decide, by decide⟩) (show DB 10 10 (dy (-1) 0) from ⟨-1024, by kernel_rfl, by decide⟩) (show DB 10 10 (dy 1 0) from ⟨1024, by kernel_rfl, by decide⟩) (by decide) (by decide) (by decide) hT).mono fun _ _ ⟨he, hb⟩ => ⟨he.trans (congrArg Ending.returned (by kernel_rfl)), hb⟩
theorem sk17 (W : World) : Calls Tryz.prog 70 #[.int .i64 1, .int .i64 1] W fun r w' => r = .returned (.agg #[.bool false, .string ⟨#[1]⟩, .int .i64 0, .bool false, .string ⟨#[1]⟩, .int .i64 0]) ∧ Below W.heap.size W w' :=
  (lTo_any (1) (1) W (by decide) (by decide) (by decide) (by decide)).mono fun _ _ ⟨he, hb⟩ => ⟨he.trans (congrArg Ending.returned (by kernel_rfl)), hb⟩
theorem sk18 (W : World) : Calls Tryz.prog 71 #[.int .i64 1, .int .i64 (-2)] W fun r w' => r = .returned (.agg #[.bool false, .string ⟨#[1]⟩, .int .i64 (-2)]) ∧ Below W.heap.size W w' :=
  (lNum_any 1 (-2) W (by decide) (by decide) (by decide) (by decide)).mono fun _ _ ⟨he, hb⟩ => ⟨he.trans (congrArg Ending.returned (by kernel_rfl)), hb⟩
theorem sk19 (W : World) : Calls Tryz.prog 71 #[.int .i64 1, .int .i64 (-1)] W fun r w' => r = .returned (.agg #[.bool false, .string ⟨#[1]⟩, .int .i64 (-1)]) ∧ Below W.heap.size W w' :=
  (lNum_any 1 (-1) W (by decide) (by decide) (by decide) (by decide)).mono fun _ _ ⟨he, hb⟩ => ⟨he.trans (congrArg Ending.returned (by kernel_rfl)), hb⟩
theorem sk20 (W : World) : Calls Tryz.prog 71 #[.int .i64 (-1), .int .i64 (-1)] W fun r w' => r = .returned (.agg #[.bool true, .string ⟨#[1]⟩, .int .i64 (-1)]) ∧ Below W.heap.size W w' :=
  (lNum_any (-1) (-1) W (by decide) (by decide) (by decide) (by decide)).mono fun _ _ ⟨he, hb⟩ => ⟨he.trans (congrArg Ending.returned (by kernel_rfl)), hb⟩
theorem sk21 (W : World) : Calls Tryz.prog 71 #[.int .i64 2, .int .i64 0] W fun r w' => r = .returned (.agg #[.bool false, .string ⟨#[1]⟩, .int .i64 1]) ∧ Below W.heap.size W w' :=
  (lNum_any 2 0 W (by decide) (by decide) (by decide) (by decide)).mono fun _ _ ⟨he, hb⟩ => ⟨he.trans (congrArg Ending.returned (by kernel_rfl)), hb⟩
theorem sk22 {g : Nat} (W : World) (hT : TabAt 0 Lib.deBruijn64tab W) (h : Bx W g 25 #[.bool false, .string ⟨#[3]⟩, .int .i64 0, .bool false, .string ⟨#[1]⟩, .int .i64 0, .bool false, .string ⟨#[1]⟩, .int .i64 1]) : Calls Tryz.prog 46 #[.slice (some ⟨g, 0, none⟩) 3 3] W fun r w' => r = .returned (.agg #[.bool false, .string ⟨#[1]⟩, .int .i64 0, .bool false, .string ⟨#[3]⟩, .int .i64 0]) ∧ Below W.heap.size W w' :=
  (sOf_any _ 3 3 _ _ _ (fun j => if j = 0 then (dy 3 0) else if j = 1 then (dy 1 0) else (dy 1 1)) W (by decide) (fun j => if h0 : j = 0 then (by subst h0; exact (show ND false ⟨#[3]⟩ 0 (dy 3 0) from ⟨by kernel_rfl, by decide, by decide, by decide⟩)) else if h1 : j = 1 then (by subst h1; exact (show ND false ⟨#[1]⟩ 0 (dy 1 0) from ⟨by kernel_rfl, by decide, by decide, by decide⟩)) else (by simp only [h0, h1, if_false]; exact (show ND false ⟨#[1]⟩ 1 (dy 1 1) from ⟨by kernel_rfl, by decide, by decide, by decide⟩))) (rdN3B h) hT).mono fun _ _ ⟨he, hb⟩ => ⟨he.trans (congrArg Ending.returned (by kernel_rfl)), hb⟩
theorem sk23 (W : World) : Calls Tryz.prog 70 #[.int .i64 1, .int .i64 3] W fun r w' => r = .returned (.agg #[.bool false, .string ⟨#[1]⟩, .int .i64 0, .bool false, .string ⟨#[3]⟩, .int .i64 0]) ∧ Below W.heap.size W w' :=
  (lTo_any (1) (3) W (by decide) (by decide) (by decide) (by decide)).mono fun _ _ ⟨he, hb⟩ => ⟨he.trans (congrArg Ending.returned (by kernel_rfl)), hb⟩
theorem sk24 (W : World) : Calls Tryz.prog 70 #[.int .i64 3, .int .i64 1] W fun r w' => r = .returned (.agg #[.bool false, .string ⟨#[3]⟩, .int .i64 0, .bool false, .string ⟨#[1]⟩, .int .i64 0]) ∧ Below W.heap.size W w' :=
  (lTo_any (3) (1) W (by decide) (by decide) (by decide) (by decide)).mono fun _ _ ⟨he, hb⟩ => ⟨he.trans (congrArg Ending.returned (by kernel_rfl)), hb⟩
theorem sk25 (W : World) (hT : TabAt 0 Lib.deBruijn64tab W) : Calls Tryz.prog 40 #[.agg #[.bool false, .string ⟨#[3]⟩, .int .i64 0, .bool false, .string ⟨#[1]⟩, .int .i64 0]] W fun r w' => r = .returned (.agg #[.bool false, .string ⟨#[1]⟩, .int .i64 0, .bool false, .string ⟨#[3]⟩, .int .i64 0]) ∧ Below W.heap.size W w' :=
  (sForm_any W (show ND false ⟨#[3]⟩ 0 (dy 3 0) from ⟨by kernel_rfl, by decide, by decide, by decide⟩) (show ND false ⟨#[1]⟩ 0 (dy 1 0) from ⟨by kernel_rfl, by decide, by decide, by decide⟩) hT).mono fun _ _ ⟨he, hb⟩ => ⟨he.trans (congrArg Ending.returned (by kernel_rfl)), hb⟩
theorem sk26 (W : World) (hT : TabAt 0 Lib.deBruijn64tab W) : Calls Tryz.prog 37 #[.agg #[.bool false, .string ⟨#[3]⟩, .int .i64 0, .bool false, .string ⟨#[1]⟩, .int .i64 0], .agg #[.bool false, .string ⟨#[1]⟩, .int .i64 1]] W fun r w' => r = .returned (.bool true) ∧ Below W.heap.size W w' :=
  (sHas_any W (show ND false ⟨#[3]⟩ 0 (dy 3 0) from ⟨by kernel_rfl, by decide, by decide, by decide⟩) (show ND false ⟨#[1]⟩ 0 (dy 1 0) from ⟨by kernel_rfl, by decide, by decide, by decide⟩) (show ND false ⟨#[1]⟩ 1 (dy 1 1) from ⟨by kernel_rfl, by decide, by decide, by decide⟩) (show DB 10 10 (dy 3 0) from ⟨3072, by kernel_rfl, by decide⟩) (show DB 10 10 (dy 1 0) from ⟨1024, by kernel_rfl, by decide⟩) (by decide) hT).mono fun _ _ ⟨he, hb⟩ => ⟨he.trans (congrArg Ending.returned (by kernel_rfl)), hb⟩
theorem sk27 {g : Nat} (W : World) (hT : TabAt 0 Lib.deBruijn64tab W) (h : Bx W g 27 #[.bool false, .string ⟨#[]⟩, .int .i64 0, .bool false, .string ⟨#[1]⟩, .int .i64 0, .bool false, .string ⟨#[3]⟩, .int .i64 0, .bool false, .string ⟨#[1]⟩, .int .i64 2]) : Calls Tryz.prog 34 #[.slice (some ⟨g, 0, none⟩) 2 2] W fun r w' => r = .returned (.agg #[.bool false, .string ⟨#[]⟩, .int .i64 0, .bool false, .string ⟨#[1]⟩, .int .i64 2]) ∧ Below W.heap.size W w' :=
  (sHull_any _ 2 2 _ _ _ _ _ _ (fun j => if j = 0 then (dy 0 0) else (dy 3 0)) (fun j => if j = 0 then (dy 1 0) else (dy 1 2)) W (by decide) (fun j => if h0 : j = 0 then (by subst h0; exact (show ND false ⟨#[]⟩ 0 (dy 0 0) from ⟨by kernel_rfl, by decide, by decide, by decide⟩)) else (by simp only [h0, if_false]; exact (show ND false ⟨#[3]⟩ 0 (dy 3 0) from ⟨by kernel_rfl, by decide, by decide, by decide⟩))) (fun j => if h0 : j = 0 then (by subst h0; exact (show ND false ⟨#[1]⟩ 0 (dy 1 0) from ⟨by kernel_rfl, by decide, by decide, by decide⟩)) else (by simp only [h0, if_false]; exact (show ND false ⟨#[1]⟩ 2 (dy 1 2) from ⟨by kernel_rfl, by decide, by decide, by decide⟩))) (rdS2B h) hT).mono fun _ _ ⟨he, hb⟩ => ⟨he.trans (congrArg Ending.returned (by kernel_rfl)), hb⟩
theorem sk28 (W : World) : Calls Tryz.prog 70 #[.int .i64 0, .int .i64 4] W fun r w' => r = .returned (.agg #[.bool false, .string ⟨#[]⟩, .int .i64 0, .bool false, .string ⟨#[1]⟩, .int .i64 2]) ∧ Below W.heap.size W w' :=
  (lTo_any (0) (4) W (by decide) (by decide) (by decide) (by decide)).mono fun _ _ ⟨he, hb⟩ => ⟨he.trans (congrArg Ending.returned (by kernel_rfl)), hb⟩
theorem sk29 {g : Nat} (W : World) (hT : TabAt 0 Lib.deBruijn64tab W) (h : Bx W g 27 #[.bool false, .string ⟨#[]⟩, .int .i64 0, .bool false, .string ⟨#[1]⟩, .int .i64 0, .bool false, .string ⟨#[3]⟩, .int .i64 0, .bool false, .string ⟨#[1]⟩, .int .i64 2]) : Calls Tryz.prog 16 #[.slice (some ⟨g, 0, none⟩) 2 2] W fun r w' => r = .returned (.agg #[.bool false, .string ⟨#[3]⟩, .int .i64 0, .bool false, .string ⟨#[5]⟩, .int .i64 0]) ∧ Below W.heap.size W w' :=
  (sAdd_any _ 2 2 _ _ _ _ _ _ (fun j => if j = 0 then (dy 0 0) else (dy 3 0)) (fun j => if j = 0 then (dy 1 0) else (dy 1 2)) 10 10 W (by decide) (fun j => if h0 : j = 0 then (by subst h0; exact (show ND false ⟨#[]⟩ 0 (dy 0 0) from ⟨by kernel_rfl, by decide, by decide, by decide⟩)) else (by simp only [h0, if_false]; exact (show ND false ⟨#[3]⟩ 0 (dy 3 0) from ⟨by kernel_rfl, by decide, by decide, by decide⟩))) (fun j => if h0 : j = 0 then (by subst h0; exact (show ND false ⟨#[1]⟩ 0 (dy 1 0) from ⟨by kernel_rfl, by decide, by decide, by decide⟩)) else (by simp only [h0, if_false]; exact (show ND false ⟨#[1]⟩ 2 (dy 1 2) from ⟨by kernel_rfl, by decide, by decide, by decide⟩))) (fun j => if h0 : j = 0 then (by subst h0; exact (show DB 10 10 (dy 0 0) from ⟨0, by kernel_rfl, by decide⟩)) else (by simp only [h0, if_false]; exact (show DB 10 10 (dy 3 0) from ⟨3072, by kernel_rfl, by decide⟩))) (fun j => if h0 : j = 0 then (by subst h0; exact (show DB 10 10 (dy 1 0) from ⟨1024, by kernel_rfl, by decide⟩)) else (by simp only [h0, if_false]; exact (show DB 10 10 (dy 1 2) from ⟨4096, by kernel_rfl, by decide⟩))) (by decide) (rdS2B h) hT).mono fun _ _ ⟨he, hb⟩ => ⟨he.trans (congrArg Ending.returned (by kernel_rfl)), hb⟩
theorem sk30 (W : World) : Calls Tryz.prog 70 #[.int .i64 3, .int .i64 5] W fun r w' => r = .returned (.agg #[.bool false, .string ⟨#[3]⟩, .int .i64 0, .bool false, .string ⟨#[5]⟩, .int .i64 0]) ∧ Below W.heap.size W w' :=
  (lTo_any (3) (5) W (by decide) (by decide) (by decide) (by decide)).mono fun _ _ ⟨he, hb⟩ => ⟨he.trans (congrArg Ending.returned (by kernel_rfl)), hb⟩
theorem sk31 (W : World) : Calls Tryz.prog 70 #[.int .i64 (-1), .int .i64 2] W fun r w' => r = .returned (.agg #[.bool true, .string ⟨#[1]⟩, .int .i64 0, .bool false, .string ⟨#[1]⟩, .int .i64 1]) ∧ Below W.heap.size W w' :=
  (lTo_any (-1) (2) W (by decide) (by decide) (by decide) (by decide)).mono fun _ _ ⟨he, hb⟩ => ⟨he.trans (congrArg Ending.returned (by kernel_rfl)), hb⟩
theorem sk32 (W : World) (hT : TabAt 0 Lib.deBruijn64tab W) : Calls Tryz.prog 20 #[.agg #[.bool true, .string ⟨#[1]⟩, .int .i64 0, .bool false, .string ⟨#[1]⟩, .int .i64 1], .agg #[.bool false, .string ⟨#[3]⟩, .int .i64 0, .bool false, .string ⟨#[1]⟩, .int .i64 2]] W fun r w' => r = .returned (.agg #[.bool true, .string ⟨#[1]⟩, .int .i64 2, .bool false, .string ⟨#[1]⟩, .int .i64 3]) ∧ Below W.heap.size W w' :=
  (sMul_any W (show ND true ⟨#[1]⟩ 0 (dy (-1) 0) from ⟨by kernel_rfl, by decide, by decide, by decide⟩) (show ND false ⟨#[1]⟩ 1 (dy 1 1) from ⟨by kernel_rfl, by decide, by decide, by decide⟩) (show ND false ⟨#[3]⟩ 0 (dy 3 0) from ⟨by kernel_rfl, by decide, by decide, by decide⟩) (show ND false ⟨#[1]⟩ 2 (dy 1 2) from ⟨by kernel_rfl, by decide, by decide, by decide⟩) (show DB 10 10 (dy (-1) 0) from ⟨-1024, by kernel_rfl, by decide⟩) (show DB 10 10 (dy 1 1) from ⟨2048, by kernel_rfl, by decide⟩) (show DB 10 10 (dy 3 0) from ⟨3072, by kernel_rfl, by decide⟩) (show DB 10 10 (dy 1 2) from ⟨4096, by kernel_rfl, by decide⟩) (by decide) hT).mono fun _ _ ⟨he, hb⟩ => ⟨he.trans (congrArg Ending.returned (by kernel_rfl)), hb⟩
theorem sk33 (W : World) : Calls Tryz.prog 70 #[.int .i64 (-4), .int .i64 8] W fun r w' => r = .returned (.agg #[.bool true, .string ⟨#[1]⟩, .int .i64 2, .bool false, .string ⟨#[1]⟩, .int .i64 3]) ∧ Below W.heap.size W w' :=
  (lTo_any (-4) (8) W (by decide) (by decide) (by decide) (by decide)).mono fun _ _ ⟨he, hb⟩ => ⟨he.trans (congrArg Ending.returned (by kernel_rfl)), hb⟩
theorem sk34 (W : World) (hT : TabAt 0 Lib.deBruijn64tab W) : Calls Tryz.prog 18 #[.agg #[.bool false, .string ⟨#[]⟩, .int .i64 0, .bool false, .string ⟨#[1]⟩, .int .i64 0]] W fun r w' => r = .returned (.agg #[.bool true, .string ⟨#[1]⟩, .int .i64 0, .bool false, .string ⟨#[]⟩, .int .i64 0]) ∧ Below W.heap.size W w' :=
  (sNeg_any W (show ND false ⟨#[]⟩ 0 (dy 0 0) from ⟨by kernel_rfl, by decide, by decide, by decide⟩) (show ND false ⟨#[1]⟩ 0 (dy 1 0) from ⟨by kernel_rfl, by decide, by decide, by decide⟩) (show DB 10 10 (dy 0 0) from ⟨0, by kernel_rfl, by decide⟩) (show DB 10 10 (dy 1 0) from ⟨1024, by kernel_rfl, by decide⟩) (by decide) hT).mono fun _ _ ⟨he, hb⟩ => ⟨he.trans (congrArg Ending.returned (by kernel_rfl)), hb⟩
theorem sk35 (W : World) : Calls Tryz.prog 70 #[.int .i64 (-1), .int .i64 0] W fun r w' => r = .returned (.agg #[.bool true, .string ⟨#[1]⟩, .int .i64 0, .bool false, .string ⟨#[]⟩, .int .i64 0]) ∧ Below W.heap.size W w' :=
  (lTo_any (-1) (0) W (by decide) (by decide) (by decide) (by decide)).mono fun _ _ ⟨he, hb⟩ => ⟨he.trans (congrArg Ending.returned (by kernel_rfl)), hb⟩
theorem sk36 (W : World) : Calls Tryz.prog 71 #[.int .i64 3, .int .i64 (-3)] W fun r w' => r = .returned (.agg #[.bool false, .string ⟨#[3]⟩, .int .i64 (-3)]) ∧ Below W.heap.size W w' :=
  (lNum_any 3 (-3) W (by decide) (by decide) (by decide) (by decide)).mono fun _ _ ⟨he, hb⟩ => ⟨he.trans (congrArg Ending.returned (by kernel_rfl)), hb⟩
theorem sk37 (W : World) : Calls Tryz.prog 71 #[.int .i64 5, .int .i64 (-3)] W fun r w' => r = .returned (.agg #[.bool false, .string ⟨#[5]⟩, .int .i64 (-3)]) ∧ Below W.heap.size W w' :=
  (lNum_any 5 (-3) W (by decide) (by decide) (by decide) (by decide)).mono fun _ _ ⟨he, hb⟩ => ⟨he.trans (congrArg Ending.returned (by kernel_rfl)), hb⟩
theorem sk38 (W : World) (hT : TabAt 0 Lib.deBruijn64tab W) : Calls Tryz.prog 28 #[.agg #[.bool false, .string ⟨#[3]⟩, .int .i64 (-3), .bool false, .string ⟨#[5]⟩, .int .i64 (-3)], .int .i64 1] W fun r w' => r = .returned (.agg #[.bool false, .string ⟨#[]⟩, .int .i64 0, .bool false, .string ⟨#[1]⟩, .int .i64 0]) ∧ Below W.heap.size W w' :=
  (sOut_any 1 W (show ND false ⟨#[3]⟩ (-3) (dy 3 (-3)) from ⟨by kernel_rfl, by decide, by decide, by decide⟩) (show ND false ⟨#[5]⟩ (-3) (dy 5 (-3)) from ⟨by kernel_rfl, by decide, by decide, by decide⟩) (show DB 10 10 (dy 3 (-3)) from ⟨384, by kernel_rfl, by decide⟩) (show DB 10 10 (dy 5 (-3)) from ⟨640, by kernel_rfl, by decide⟩) (by decide) (by decide) (by decide) hT).mono fun _ _ ⟨he, hb⟩ => ⟨he.trans (congrArg Ending.returned (by kernel_rfl)), hb⟩
set_option maxRecDepth 100000 in
theorem sawake_r  (w : World) (hT : Tab0 w) : RetAt Tryz.prog w 15 #[] (.bool true) := 
  ret_sk ttOk mixed (fun a w => Tryz.call15 a w) Tryz.func15 Tryz.ntmps15 Tryz.results15 _ rfl _ [.o 1 0 (.ret (.val (rS false ⟨#[]⟩ 0 false ⟨#[1]⟩ 0))), .o 1 1 (.ret (.val (rS false ⟨#[1]⟩ 0 false ⟨#[1]⟩ 2))), .o 1 2 (.ret (.tup [.val (rS false ⟨#[1]⟩ 0 false ⟨#[1]⟩ 0), .val (.int .i64 0)])), .o 2 0 (.ret (.val (rS false ⟨#[]⟩ 0 false ⟨#[1]⟩ 0))), .o 2 1 (.ret (.val (rS false ⟨#[3]⟩ 0 false ⟨#[1]⟩ 2))), .o 2 2 (.ret (.tup [.val (rS false ⟨#[]⟩ 0 false ⟨#[]⟩ 0), .val (.int .i64 4)])), .o 3 0 (.ret (.val (rN false ⟨#[1]⟩ 0))), .o 3 1 (.ret (.val (rN false ⟨#[3]⟩ 0))), .o 3 2 (.ret (.tup [.val (rS false ⟨#[1]⟩ (-2) false ⟨#[1]⟩ (-1)), .val (.int .i64 0)])), .o 4 0 (.ret (.val (rN true ⟨#[1]⟩ 0))), .o 4 1 (.ret (.val (rN false ⟨#[3]⟩ 0))), .o 4 2 (.ret (.tup [.val (rS true ⟨#[1]⟩ (-1) true ⟨#[1]⟩ (-2)), .val (.int .i64 0)])), .o 5 0 (.ret (.val (rN false ⟨#[1]⟩ 0))), .o 5 1 (.ret (.val (rN false ⟨#[]⟩ 0))), .o 5 2 (.ret (.tup [.val (rS false ⟨#[]⟩ 0 false ⟨#[]⟩ 0), .val (.int .i64 1)])), .o 6 0 (.ret (.val (rS false ⟨#[1]⟩ 0 false ⟨#[1]⟩ 1))), .o 6 1 (.ret (.val (rS false ⟨#[3]⟩ 0 false ⟨#[1]⟩ 2))), .o 6 2 (.ret (.tup [.val (rS false ⟨#[]⟩ 0 false ⟨#[1]⟩ 0), .val (.int .i64 0)])), .o 7 0 (.ret (.val (rS false ⟨#[1]⟩ 0 false ⟨#[1]⟩ 1))), .o 7 1 (.ret (.val (rS true ⟨#[1]⟩ 0 false ⟨#[1]⟩ 0))), .o 7 2 (.ret (.tup [.val (rS false ⟨#[]⟩ 0 false ⟨#[]⟩ 0), .val (.int .i64 1)])), .reg 50 [], .o 8 1 (.ret (.val (rS false ⟨#[1]⟩ 0 false ⟨#[1]⟩ 0))), .o 8 2 (.set (.bool false)), .o 8 14 (.ret (.val (rN false ⟨#[1]⟩ (-2)))), .o 8 15 (.set (.bool false)), .o 8 20 (.ret (.val (rN false ⟨#[1]⟩ (-1)))), .o 8 21 (.set (.bool false)), .o 8 30 (.ret (.val (rN true ⟨#[1]⟩ (-1)))), .o 8 31 (.set (.bool false)), .o 8 39 (.ret (.val (rS false ⟨#[]⟩ 0 false ⟨#[1]⟩ 0))), .o 8 40 (.set (.bool false)), .o 10 0 (.ret (.val (rN false ⟨#[3]⟩ 0))), .o 10 1 (.ret (.val (rN false ⟨#[1]⟩ 0))), .o 10 2 (.ret (.val (rN false ⟨#[1]⟩ 1))), .o 10 4 (.ret (.val (rS false ⟨#[1]⟩ 0 false ⟨#[3]⟩ 0))), .o 10 5 (.ret (.val (rS false ⟨#[1]⟩ 0 false ⟨#[3]⟩ 0))), .o 10 6 (.set (.bool true)), .o 10 8 (.ret (.val (rS false ⟨#[3]⟩ 0 false ⟨#[1]⟩ 0))), .o 10 9 (.ret (.val (rS false ⟨#[1]⟩ 0 false ⟨#[3]⟩ 0))), .o 10 10 (.ret (.val (rS false ⟨#[1]⟩ 0 false ⟨#[3]⟩ 0))), .o 10 11 (.set (.bool true)), .o 10 14 (.ret (.val (rS false ⟨#[3]⟩ 0 false ⟨#[1]⟩ 0))), .o 10 15 (.ret (.val (rN false ⟨#[1]⟩ 1))), .o 10 16 (.ret (.val (.bool true))), .o 10 19 (.ret (.val (rS false ⟨#[]⟩ 0 false ⟨#[1]⟩ 0))), .o 10 20 (.ret (.val (rS false ⟨#[3]⟩ 0 false ⟨#[1]⟩ 2))), .o 10 22 (.ret (.val (rS false ⟨#[]⟩ 0 false ⟨#[1]⟩ 2))), .o 10 23 (.ret (.val (rS false ⟨#[]⟩ 0 false ⟨#[1]⟩ 2))), .o 10 24 (.set (.bool true)), .o 10 27 (.ret (.val (rS false ⟨#[]⟩ 0 false ⟨#[1]⟩ 0))), .o 10 28 (.ret (.val (rS false ⟨#[3]⟩ 0 false ⟨#[1]⟩ 2))), .o 10 30 (.ret (.val (rS false ⟨#[3]⟩ 0 false ⟨#[5]⟩ 0))), .o 10 31 (.ret (.val (rS false ⟨#[3]⟩ 0 false ⟨#[5]⟩ 0))), .o 10 32 (.set (.bool true)), .o 10 35 (.ret (.val (rS true ⟨#[1]⟩ 0 false ⟨#[1]⟩ 1))), .o 10 36 (.ret (.val (rS false ⟨#[3]⟩ 0 false ⟨#[1]⟩ 2))), .o 10 37 (.ret (.val (rS true ⟨#[1]⟩ 2 false ⟨#[1]⟩ 3))), .o 10 38 (.ret (.val (rS true ⟨#[1]⟩ 2 false ⟨#[1]⟩ 3))), .o 10 39 (.set (.bool true)), .o 10 42 (.ret (.val (rS false ⟨#[]⟩ 0 false ⟨#[1]⟩ 0))), .o 10 43 (.ret (.val (rS true ⟨#[1]⟩ 0 false ⟨#[]⟩ 0))), .o 10 44 (.ret (.val (rS true ⟨#[1]⟩ 0 false ⟨#[]⟩ 0))), .o 10 45 (.set (.bool true)), .o 10 48 (.ret (.val (rN false ⟨#[3]⟩ (-3)))), .o 10 49 (.ret (.val (rN false ⟨#[5]⟩ (-3)))), .o 10 51 (.ret (.val (rS false ⟨#[]⟩ 0 false ⟨#[1]⟩ 0))), .o 10 52 (.ret (.val (rS false ⟨#[]⟩ 0 false ⟨#[1]⟩ 0))), .o 10 53 (.set (.bool true))] (fun W hW hR => (fun (hT : Tab0 W) => ai (rc W Tryz.call70 fun W => sk1 W) <| ai (rc W Tryz.call70 fun W => sk2 W) <| ai (rt hT Tryz.call30 fun W h => sk3 W h) <| ai (rc W Tryz.call70 fun W => sk1 W) <| ai (rc W Tryz.call70 fun W => sk4 W) <| ai (rt hT Tryz.call30 fun W h => sk5 W h) <| ai (rc W Tryz.call71 fun W => sk6 W) <| ai (rc W Tryz.call71 fun W => sk7 W) <| ai (rt hT Tryz.call23 fun W h => sk8 W h) <| ai (rc W Tryz.call71 fun W => sk9 W) <| ai (rc W Tryz.call71 fun W => sk7 W) <| ai (rt hT Tryz.call23 fun W h => sk10 W h) <| ai (rc W Tryz.call71 fun W => sk6 W) <| ai (rc W Tryz.call71 fun W => sk11 W) <| ai (rt hT Tryz.call23 fun W h => sk12 W h) <| ai (rc W Tryz.call70 fun W => sk13 W) <| ai (rc W Tryz.call70 fun W => sk4 W) <| ai (rt hT Tryz.call26 fun W h => sk14 W h) <| ai (rc W Tryz.call70 fun W => sk13 W) <| ai (rc W Tryz.call70 fun W => sk15 W) <| ai (rt hT Tryz.call26 fun W h => sk16 W h) <| ai (rc W Tryz.call70 fun W => sk17 W) <| ai (span_neq1 W (.tmp 57) (.tmp 58) false false ⟨#[1]⟩ ⟨#[1]⟩ 0 0) <| ai (rc W Tryz.call71 fun W => sk18 W) <| ai (num_neq1 W (.tmp 70) (.tmp 71) false ⟨#[1]⟩ (-2)) <| ai (rc W Tryz.call71 fun W => sk19 W) <| ai (num_neq1 W (.tmp 76) (.tmp 77) false ⟨#[1]⟩ (-1)) <| ai (rc W Tryz.call71 fun W => sk20 W) <| ai (num_neq1 W (.tmp 86) (.tmp 87) true ⟨#[1]⟩ (-1)) <| ai (rc W Tryz.call70 fun W => sk1 W) <| ai (span_neq1 W (.tmp 95) (.tmp 96) false false ⟨#[]⟩ ⟨#[1]⟩ 0 0) <| ai (rc W Tryz.call71 fun W => sk7 W) <| ai (rc W Tryz.call71 fun W => sk6 W) <| ai (rc W Tryz.call71 fun W => sk21 W) <| ai (rg1 hT Tryz.call46 fun W g h hx => sk22 W h hx) <| ai (rc W Tryz.call70 fun W => sk23 W) <| ai (span_eql1 W (.tmp 111) (.tmp 112) false false ⟨#[1]⟩ ⟨#[3]⟩ 0 0) <| ai (rc W Tryz.call70 fun W => sk24 W) <| ai (rt hT Tryz.call40 fun W h => sk25 W h) <| ai (rc W Tryz.call70 fun W => sk23 W) <| ai (span_eql1 W (.tmp 116) (.tmp 117) false false ⟨#[1]⟩ ⟨#[3]⟩ 0 0) <| ai (rc W Tryz.call70 fun W => sk24 W) <| ai (rc W Tryz.call71 fun W => sk21 W) <| ai (rt hT Tryz.call37 fun W h => sk26 W h) <| ai (rc W Tryz.call70 fun W => sk1 W) <| ai (rc W Tryz.call70 fun W => sk4 W) <| ai (rg1 hT Tryz.call34 fun W g h hx => sk27 W h hx) <| ai (rc W Tryz.call70 fun W => sk28 W) <| ai (span_eql1 W (.tmp 129) (.tmp 130) false false ⟨#[]⟩ ⟨#[1]⟩ 0 2) <| ai (rc W Tryz.call70 fun W => sk1 W) <| ai (rc W Tryz.call70 fun W => sk4 W) <| ai (rg1 hT Tryz.call16 fun W g h hx => sk29 W h hx) <| ai (rc W Tryz.call70 fun W => sk30 W) <| ai (span_eql1 W (.tmp 137) (.tmp 138) false false ⟨#[3]⟩ ⟨#[5]⟩ 0 0) <| ai (rc W Tryz.call70 fun W => sk31 W) <| ai (rc W Tryz.call70 fun W => sk4 W) <| ai (rt hT Tryz.call20 fun W h => sk32 W h) <| ai (rc W Tryz.call70 fun W => sk33 W) <| ai (span_eql1 W (.tmp 144) (.tmp 145) true false ⟨#[1]⟩ ⟨#[1]⟩ 2 3) <| ai (rc W Tryz.call70 fun W => sk1 W) <| ai (rt hT Tryz.call18 fun W h => sk34 W h) <| ai (rc W Tryz.call70 fun W => sk35 W) <| ai (span_eql1 W (.tmp 150) (.tmp 151) true false ⟨#[1]⟩ ⟨#[]⟩ 0 0) <| ai (rc W Tryz.call71 fun W => sk36 W) <| ai (rc W Tryz.call71 fun W => sk37 W) <| ai (rt hT Tryz.call28 fun W h => sk38 W h) <| ai (rc W Tryz.call70 fun W => sk1 W) <| ai (span_eql1 W (.tmp 158) (.tmp 159) false false ⟨#[]⟩ ⟨#[1]⟩ 0 0) <| hR) (tab_keep hT hW)) fun W => by kernel_rfl

theorem sawake_any (w : World) (hT : Tab0 w) : Calls Tryz.prog 15 #[] w fun r w' => r = .returned (.bool true) ∧ Below w.heap.size w w' := (sawake_r w hT).at
end Go.Proofs.YtchfglbkiebfpaaGreatDoor

