/- The walks and plain laws beneath the statements. -/
import Derived.Test.YtchfglbkiebfpaaGreatDoorPR24
import Derived.Test.YtchfglbkiebfpaaGreatDoorPR26
import Derived.Test.YtchfglbkiebfpaaGreatDoorPR20
namespace Go.Proofs.YtchfglbkiebfpaaGreatDoor
open Go.RowKit

theorem has_no {x y : Dyadic} (h : hasB x y 0 = false) : x ≠ 0 ∧ y ≠ 0 ∧ ¬ btw x y 0 := by
  have h1 : ¬ (dmin x y ≤ 0 ∧ 0 ≤ dmax x y) := fun h2 => by rw [(hasB_iff x y 0).2 h2] at h; cases h
  refine ⟨fun e => h1 ?_, fun e => h1 ?_, h1⟩ <;> (subst e; unfold dmin dmax; constructor <;> grind)
theorem db_quoU {L T0 P : Nat} {x y : Dyadic} {p : Int} (d1 : DB L T0 x) (d2 : DB L T0 y) (hp1 : -(P : Int) ≤ p) (hp2 : p ≤ P) : DB P (2 * (L + T0) + 2 * P) (quoU x y p) := db_neg (db_quo (db_neg d1) d2 hp1 hp2)
theorem dMin4 {z1 z2 z3 z4 : Dyadic} {L T0 : Nat} {g : Nat} {t : TypeId} {w : World} (d1 : DB L T0 z1) (d2 : DB L T0 z2) (d3 : DB L T0 z3) (d4 : DB L T0 z4) (hLT : L + T0 ≤ 4000000) (hT : TabAt 0 Lib.deBruijn64tab w) (h : Bx w g t #[.bool (neg (dm (z1))), .string (mag (dm (z1))), .int .i64 (de (z1)), .bool (neg (dm (z2))), .string (mag (dm (z2))), .int .i64 (de (z2)), .bool (neg (dm (z3))), .string (mag (dm (z3))), .int .i64 (de (z3)), .bool (neg (dm (z4))), .string (mag (dm (z4))), .int .i64 (de (z4))]) :
    Calls Tryz.prog 91 #[.slice (some ⟨g, 0, none⟩) 4 4] w fun r w' => r = .returned (.agg #[.bool (neg (dm (dmin4 z1 z2 z3 z4))), .string (mag (dm (dmin4 z1 z2 z3 z4))), .int .i64 (de (dmin4 z1 z2 z3 z4))]) ∧ Below w.heap.size w w' := by
  have h := dMin_any _ 4 4 _ _ _ (four4 z1 z2 z3 z4) w (by decide) (fun j => nd_db (db_four d1 d2 d3 d4 j) hLT) (rdN4B h) hT
  rwa [min4] at h

theorem dMax4 {z1 z2 z3 z4 : Dyadic} {L T0 : Nat} {g : Nat} {t : TypeId} {w : World} (d1 : DB L T0 z1) (d2 : DB L T0 z2) (d3 : DB L T0 z3) (d4 : DB L T0 z4) (hLT : L + T0 ≤ 4000000) (hT : TabAt 0 Lib.deBruijn64tab w) (h : Bx w g t #[.bool (neg (dm (z1))), .string (mag (dm (z1))), .int .i64 (de (z1)), .bool (neg (dm (z2))), .string (mag (dm (z2))), .int .i64 (de (z2)), .bool (neg (dm (z3))), .string (mag (dm (z3))), .int .i64 (de (z3)), .bool (neg (dm (z4))), .string (mag (dm (z4))), .int .i64 (de (z4))]) :
    Calls Tryz.prog 92 #[.slice (some ⟨g, 0, none⟩) 4 4] w fun r w' => r = .returned (.agg #[.bool (neg (dm (dmax4 z1 z2 z3 z4))), .string (mag (dm (dmax4 z1 z2 z3 z4))), .int .i64 (de (dmax4 z1 z2 z3 z4))]) ∧ Below w.heap.size w w' := by
  have h := dMax_any _ 4 4 _ _ _ (four4 z1 z2 z3 z4) w (by decide) (fun j => nd_db (db_four d1 d2 d3 d4 j) hLT) (rdN4B h) hT
  rwa [max4] at h

theorem sDivC1_any {b c : Bool} {s t : ByteArray} {e f : Int} {x y : Dyadic} {L T0 P : Nat} (p : Int) (gp : Nat) (w : World) (n1 : ND b s e x) (n2 : ND c t f y) (d1 : DB L T0 x) (d2 : DB L T0 y) (hLT : 2 * (L + T0) + 3 * P ≤ 1000000) (hp1 : -(P : Int) ≤ p) (hp2 : p ≤ P) (hy : y ≠ 0) (hT : TabAt 0 Lib.deBruijn64tab w) (hP : Bx w gp 3 #[.int .i64 (p)]) :
    Calls Tryz.prog 89 #[.agg #[.bool b, .string s, .int .i64 e], .agg #[.bool c, .string t, .int .i64 f], .pointer (some ⟨gp, 0, none⟩)] w fun r w' => r = .returned (.agg #[.bool (neg (dm (quoD x y p))), .string (mag (dm (quoD x y p))), .int .i64 (de (quoD x y p))]) ∧ Below w.heap.size w w' := by
  have cQ := Lib.hid (fun W h => sQuo_any p W n1 n2 d1 d2 (P := P) (by omega) hp1 hp2 h)
  rw [if_neg hy] at cQ
  exact sDivC1 _ _ _ _ _ _ _ _ _ _ _ _ _ _ _ w hP hT cQ

theorem sDivC2_any {b c : Bool} {s t : ByteArray} {e f : Int} {x y : Dyadic} {L T0 P : Nat} (p : Int) (gp : Nat) (w : World) (n1 : ND b s e x) (n2 : ND c t f y) (d1 : DB L T0 x) (d2 : DB L T0 y) (hLT : 2 * (L + T0) + 3 * P ≤ 1000000) (hp1 : -(P : Int) ≤ p) (hp2 : p ≤ P) (hy : y ≠ 0) (hT : TabAt 0 Lib.deBruijn64tab w) (hP : Bx w gp 3 #[.int .i64 (p)]) :
    Calls Tryz.prog 90 #[.agg #[.bool b, .string s, .int .i64 e], .agg #[.bool c, .string t, .int .i64 f], .pointer (some ⟨gp, 0, none⟩)] w fun r w' => r = .returned (.agg #[.bool (neg (dm (quoU x y p))), .string (mag (dm (quoU x y p))), .int .i64 (de (quoU x y p))]) ∧ Below w.heap.size w w' := by
  have cQ := Lib.hid (fun W h => sQuo_any p W n1 n2 d1 d2 (P := P) (by omega) hp1 hp2 h)
  rw [if_neg hy] at cQ
  exact sDivC2 _ _ _ _ _ _ _ _ _ _ _ _ _ _ _ w hP hT cQ

theorem sFourD1_any {b c : Bool} {s t : ByteArray} {e f : Int} {x y : Dyadic} {L T0 P : Nat} {b' c' : Bool} {s' t' : ByteArray} {e' f' : Int} {x' y' : Dyadic} (p : Int) (gp : Nat) (w : World) (n1 : ND b s e x) (n2 : ND c t f y) (d1 : DB L T0 x) (d2 : DB L T0 y) (m1 : ND b' s' e' x') (m2 : ND c' t' f' y') (k1 : DB L T0 x') (k2 : DB L T0 y') (hLT : 2 * (L + T0) + 3 * P ≤ 1000000) (hp1 : -(P : Int) ≤ p) (hp2 : p ≤ P) (hx' : x' ≠ 0) (hy' : y' ≠ 0) (hT : TabAt 0 Lib.deBruijn64tab w) (hP : Bx w gp 3 #[.int .i64 (p)]) :
    Calls Tryz.prog 76 #[.agg #[.bool b, .string s, .int .i64 e, .bool c, .string t, .int .i64 f], .agg #[.bool b', .string s', .int .i64 e', .bool c', .string t', .int .i64 f'], .func (.func 89) #[] #[.pointer (some ⟨gp, 0, none⟩)]] w fun r w' => r = .returned (.agg #[.bool (neg (dm (quoD x x' p))), .string (mag (dm (quoD x x' p))), .int .i64 (de (quoD x x' p)), .bool (neg (dm (quoD x y' p))), .string (mag (dm (quoD x y' p))), .int .i64 (de (quoD x y' p)), .bool (neg (dm (quoD y x' p))), .string (mag (dm (quoD y x' p))), .int .i64 (de (quoD y x' p)), .bool (neg (dm (quoD y y' p))), .string (mag (dm (quoD y y' p))), .int .i64 (de (quoD y y' p))]) ∧ Below w.heap.size w w' := by
  exact sFourD1 _ _ _ _ _ _ _ _ _ _ _ _ _ _ _ _ _ _ _ _ _ _ _ _ _ _ w hP hT (Lib.hid fun W h hx => sDivC1_any p gp W n1 m1 d1 k1 hLT hp1 hp2 hx' h hx) (Lib.hid fun W h hx => sDivC1_any p gp W n1 m2 d1 k2 hLT hp1 hp2 hy' h hx) (Lib.hid fun W h hx => sDivC1_any p gp W n2 m1 d2 k1 hLT hp1 hp2 hx' h hx) (Lib.hid fun W h hx => sDivC1_any p gp W n2 m2 d2 k2 hLT hp1 hp2 hy' h hx)

theorem sFourD2_any {b c : Bool} {s t : ByteArray} {e f : Int} {x y : Dyadic} {L T0 P : Nat} {b' c' : Bool} {s' t' : ByteArray} {e' f' : Int} {x' y' : Dyadic} (p : Int) (gp : Nat) (w : World) (n1 : ND b s e x) (n2 : ND c t f y) (d1 : DB L T0 x) (d2 : DB L T0 y) (m1 : ND b' s' e' x') (m2 : ND c' t' f' y') (k1 : DB L T0 x') (k2 : DB L T0 y') (hLT : 2 * (L + T0) + 3 * P ≤ 1000000) (hp1 : -(P : Int) ≤ p) (hp2 : p ≤ P) (hx' : x' ≠ 0) (hy' : y' ≠ 0) (hT : TabAt 0 Lib.deBruijn64tab w) (hP : Bx w gp 3 #[.int .i64 (p)]) :
    Calls Tryz.prog 76 #[.agg #[.bool b, .string s, .int .i64 e, .bool c, .string t, .int .i64 f], .agg #[.bool b', .string s', .int .i64 e', .bool c', .string t', .int .i64 f'], .func (.func 90) #[] #[.pointer (some ⟨gp, 0, none⟩)]] w fun r w' => r = .returned (.agg #[.bool (neg (dm (quoU x x' p))), .string (mag (dm (quoU x x' p))), .int .i64 (de (quoU x x' p)), .bool (neg (dm (quoU x y' p))), .string (mag (dm (quoU x y' p))), .int .i64 (de (quoU x y' p)), .bool (neg (dm (quoU y x' p))), .string (mag (dm (quoU y x' p))), .int .i64 (de (quoU y x' p)), .bool (neg (dm (quoU y y' p))), .string (mag (dm (quoU y y' p))), .int .i64 (de (quoU y y' p))]) ∧ Below w.heap.size w w' := by
  exact sFourD2 _ _ _ _ _ _ _ _ _ _ _ _ _ _ _ _ _ _ _ _ _ _ _ _ _ _ w hP hT (Lib.hid fun W h hx => sDivC2_any p gp W n1 m1 d1 k1 hLT hp1 hp2 hx' h hx) (Lib.hid fun W h hx => sDivC2_any p gp W n1 m2 d1 k2 hLT hp1 hp2 hy' h hx) (Lib.hid fun W h hx => sDivC2_any p gp W n2 m1 d2 k1 hLT hp1 hp2 hx' h hx) (Lib.hid fun W h hx => sDivC2_any p gp W n2 m2 d2 k2 hLT hp1 hp2 hy' h hx)

theorem sDiv_any {b c : Bool} {s t : ByteArray} {e f : Int} {x y : Dyadic} {L T0 P : Nat} {b' c' : Bool} {s' t' : ByteArray} {e' f' : Int} {x' y' : Dyadic} (p : Int) (w : World) (n1 : ND b s e x) (n2 : ND c t f y) (d1 : DB L T0 x) (d2 : DB L T0 y) (m1 : ND b' s' e' x') (m2 : ND c' t' f' y') (k1 : DB L T0 x') (k2 : DB L T0 y') (hLT : 2 * (L + T0) + 3 * P ≤ 1000000) (hp1 : -(P : Int) ≤ p) (hp2 : p ≤ P) (hT : TabAt 0 Lib.deBruijn64tab w) :
    Calls Tryz.prog 26 #[.agg #[.bool b, .string s, .int .i64 e, .bool c, .string t, .int .i64 f], .agg #[.bool b', .string s', .int .i64 e', .bool c', .string t', .int .i64 f'], .int .i64 (p)] w fun r w' => r = .returned (if hasB x' y' 0 = true then .tuple #[.agg #[.bool false, .string ⟨#[]⟩, .int .i64 0, .bool false, .string ⟨#[]⟩, .int .i64 0], .int .i64 1] else .tuple #[.agg #[.bool (neg (dm (dmin4 (quoD x x' p) (quoD x y' p) (quoD y x' p) (quoD y y' p)))), .string (mag (dm (dmin4 (quoD x x' p) (quoD x y' p) (quoD y x' p) (quoD y y' p)))), .int .i64 (de (dmin4 (quoD x x' p) (quoD x y' p) (quoD y x' p) (quoD y y' p))), .bool (neg (dm (dmax4 (quoU x x' p) (quoU x y' p) (quoU y x' p) (quoU y y' p)))), .string (mag (dm (dmax4 (quoU x x' p) (quoU x y' p) (quoU y x' p) (quoU y y' p)))), .int .i64 (de (dmax4 (quoU x x' p) (quoU x y' p) (quoU y x' p) (quoU y y' p)))], .int .i64 0]) ∧ Below w.heap.size w w' := by
  have cH := Lib.hid (fun W h => sHas_any W m1 m2 nd_zero0 k1 k2 (by omega) h)
  cases hb : hasB x' y' 0
  · rw [if_neg (by decide)]
    rw [hb] at cH
    obtain ⟨hx', hy', _⟩ := has_no hb
    have dq : ∀ {u v : Dyadic}, DB L T0 u → DB L T0 v → DB P (2 * (L + T0) + 2 * P) (quoD u v p) := fun h1 h2 => db_quo h1 h2 hp1 hp2
    have du : ∀ {u v : Dyadic}, DB L T0 u → DB L T0 v → DB P (2 * (L + T0) + 2 * P) (quoU u v p) := fun h1 h2 => db_quoU h1 h2 hp1 hp2
    exact sDiv_some _ _ _ _ _ _ _ _ _ _ _ _ _ _ _ _ _ _ _ _ _ _ _ _ _ _ _ _ _ _ _ _ _ _ _ _ _ _ _ _ _ _ _ w hT cH (Lib.hid fun g W h hx => sFourD1_any p g W n1 n2 d1 d2 m1 m2 k1 k2 hLT hp1 hp2 hx' hy' h hx) (Lib.hid fun g W h hx => sFourD2_any p g W n1 n2 d1 d2 m1 m2 k1 k2 hLT hp1 hp2 hx' hy' h hx)
      (Lib.hid fun _ W h hx => dMin4 (dq d1 k1) (dq d1 k2) (dq d2 k1) (dq d2 k2) (by omega) h hx) (Lib.hid fun _ W h hx => dMax4 (du d1 k1) (du d1 k2) (du d2 k1) (du d2 k2) (by omega) h hx)
  · rw [if_pos rfl]
    rw [hb] at cH
    exact sDiv_zero _ _ _ _ _ _ _ _ _ _ _ _ _ w hT cH

theorem mag_two {z : Int} {k : Nat} (h : z.natAbs < 2 ^ k) : (mag z).size ≤ k / 8 + 1 := by
  rw [mag_size]
  refine bsz_le (Nat.lt_of_lt_of_le h ?_)
  rw [show 256 = 2 ^ 8 from rfl, ← Nat.pow_mul]
  exact Nat.pow_le_pow_right (by decide) (by omega)
end Go.Proofs.YtchfglbkiebfpaaGreatDoor

namespace Go.Proofs.YtchfglbkiebfpaaGreatDoor
open Go.RowKit

set_option maxRecDepth 100000 in
set_option maxHeartbeats 1000000 in
theorem lNum_x (xM : Bool) (xS : ByteArray) (xE : Int) (oM : Bool) (oS : ByteArray) (m e : Int) (w : World)
    (c1 : Hid (∀ (W : World), Calls Tryz.prog 88 #[.int .i64 (m)] W fun r w' => r = .returned (.agg #[.bool oM, .string oS]) ∧ Below W.heap.size W w'))
    (c2 : Hid (∀ (W : World), Calls Tryz.prog 86 #[.agg #[.bool oM, .string oS], .int .i64 (e)] W fun r w' => r = .returned (.agg #[.bool xM, .string xS, .int .i64 xE]) ∧ Below W.heap.size W w'))
    :
    Calls Tryz.prog 71 #[.int .i64 (m), .int .i64 (e)] w fun r w' => r = .returned (.agg #[.bool xM, .string xS, .int .i64 xE]) ∧ Below w.heap.size w w' := by
  go_enter Tryz.func71, Tryz.ntmps71
  go_upto_region 1 with (fail)
  have X1 := Bx.new w 25 #[.bool false, .string ⟨#[]⟩, .int .i64 0]
  have hB := b1 w (.cells #[.bool false, .string ⟨#[]⟩, .int .i64 0] 25)
  generalize w.alloc (.cells #[.bool false, .string ⟨#[]⟩, .int .i64 0] 25) = w0 at *
  go_wp2_with fail
  refine (c1.out _).mono ?_
  rintro e w1 ⟨rfl, hb⟩
  replace X1 := X1.later hb
  replace hB := nxt hB hb
  clear hb
  go_wp2_with fail
  refine (c2.out _).mono ?_
  rintro e w2 ⟨rfl, hb⟩
  replace X1 := X1.later hb
  replace hB := nxt hB hb
  clear hb
  obtain ⟨c1_0, c1_1, c1_2, c1_3, c1_4, c1_5⟩ := X1.k3
  replace X1 := Bx.stores [.bool xM, .string xS, .int .i64 xE] 0 X1
  replace hB := stN (Nat.le_refl _) [.bool xM, .string xS, .int .i64 xE] 0 hB
  simp only [setN, Nat.reduceAdd] at  hB
  simp only [setN, putN, Nat.reduceAdd, List.setIfInBounds_toArray, List.set_cons_zero, List.set_cons_succ] at X1
  obtain ⟨c2_0, c2_1, c2_2, _, _, _⟩ := X1.k3
  go_wp2_with fail
  clear c1_0 c1_1 c1_2 c1_3 c1_4 c1_5 c2_0 c2_1 c2_2
  exact bodyPost_ret (v := .agg #[.bool xM, .string xS, .int .i64 xE]) (by simp [results, Tryz.results71, go_sem, X1.cel]) rfl ⟨rfl, hB⟩

set_option maxRecDepth 100000 in
set_option maxHeartbeats 1000000 in
theorem lTo_x (xM yM : Bool) (xS yS : ByteArray) (xE yE : Int) (m k : Int) (w : World)
    (c1 : Hid (∀ (W : World), Calls Tryz.prog 71 #[.int .i64 (m), .int .i64 0] W fun r w' => r = .returned (.agg #[.bool xM, .string xS, .int .i64 xE]) ∧ Below W.heap.size W w'))
    (c2 : Hid (∀ (W : World), Calls Tryz.prog 71 #[.int .i64 (k), .int .i64 0] W fun r w' => r = .returned (.agg #[.bool yM, .string yS, .int .i64 yE]) ∧ Below W.heap.size W w'))
    :
    Calls Tryz.prog 70 #[.int .i64 (m), .int .i64 (k)] w fun r w' => r = .returned (.agg #[.bool xM, .string xS, .int .i64 xE, .bool yM, .string yS, .int .i64 yE]) ∧ Below w.heap.size w w' := by
  go_enter Tryz.func70, Tryz.ntmps70
  go_upto_region 1 with (fail)
  have X1 := Bx.new w 27 #[.bool false, .string ⟨#[]⟩, .int .i64 0, .bool false, .string ⟨#[]⟩, .int .i64 0]
  have hB := b1 w (.cells #[.bool false, .string ⟨#[]⟩, .int .i64 0, .bool false, .string ⟨#[]⟩, .int .i64 0] 27)
  generalize w.alloc (.cells #[.bool false, .string ⟨#[]⟩, .int .i64 0, .bool false, .string ⟨#[]⟩, .int .i64 0] 27) = w0 at *
  go_wp2_with fail
  refine (c1.out _).mono ?_
  rintro e w1 ⟨rfl, hb⟩
  replace X1 := X1.later hb
  replace hB := nxt hB hb
  clear hb
  go_wp2_with fail
  refine (c2.out _).mono ?_
  rintro e w2 ⟨rfl, hb⟩
  replace X1 := X1.later hb
  replace hB := nxt hB hb
  clear hb
  obtain ⟨c1_0, c1_1, c1_2, c1_3, c1_4, c1_5, c1_6, c1_7, c1_8, c1_9, c1_10, c1_11⟩ := X1.k6
  replace X1 := Bx.stores [.bool xM, .string xS, .int .i64 xE, .bool yM, .string yS, .int .i64 yE] 0 X1
  replace hB := stN (Nat.le_refl _) [.bool xM, .string xS, .int .i64 xE, .bool yM, .string yS, .int .i64 yE] 0 hB
  simp only [setN, Nat.reduceAdd] at  hB
  simp only [setN, putN, Nat.reduceAdd, List.setIfInBounds_toArray, List.set_cons_zero, List.set_cons_succ] at X1
  obtain ⟨c2_0, c2_1, c2_2, c2_3, c2_4, c2_5, _, _, _, _, _, _⟩ := X1.k6
  go_wp2_with fail
  clear c1_0 c1_1 c1_2 c1_3 c1_4 c1_5 c1_6 c1_7 c1_8 c1_9 c1_10 c1_11 c2_0 c2_1 c2_2 c2_3 c2_4 c2_5
  exact bodyPost_ret (v := .agg #[.bool xM, .string xS, .int .i64 xE, .bool yM, .string yS, .int .i64 yE]) (by simp [results, Tryz.results70, go_sem, X1.cel]) rfl ⟨rfl, hB⟩

theorem lNum_any (m e : Int) (w : World) (h1 : -9223372036854775808 ≤ m) (h2 : m ≤ 9223372036854775807) (h3 : -1000 ≤ e) (h4 : e ≤ 1000) :
    Calls Tryz.prog 71 #[.int .i64 (m), .int .i64 (e)] w fun r w' => r = .returned (.agg #[.bool (neg (dm (dy m e))), .string (mag (dm (dy m e))), .int .i64 (de (dy m e))]) ∧ Below w.heap.size w w' := by
  have c2 := Lib.hid fun W => rMake_any (mag m) (neg m) e W (Nat.le_trans (mag_two (k := 64) (show m.natAbs < 2 ^ 64 by omega)) (by decide)) (by omega) (by omega)
  rw [ival_mk] at c2
  exact lNum_x _ _ _ _ _ _ _ w (Lib.hid fun W => rWOf_any m W h1 h2) c2
theorem lTo_any (m k : Int) (w : World) (h1 : -9223372036854775808 ≤ m) (h2 : m ≤ 9223372036854775807) (h3 : -9223372036854775808 ≤ k) (h4 : k ≤ 9223372036854775807) :
    Calls Tryz.prog 70 #[.int .i64 (m), .int .i64 (k)] w fun r w' => r = .returned (.agg #[.bool (neg (dm (dy m 0))), .string (mag (dm (dy m 0))), .int .i64 (de (dy m 0)), .bool (neg (dm (dy k 0))), .string (mag (dm (dy k 0))), .int .i64 (de (dy k 0))]) ∧ Below w.heap.size w w' := by
  exact lTo_x _ _ _ _ _ _ _ _ w (Lib.hid fun W => lNum_any m 0 W h1 h2 (by decide) (by decide)) (Lib.hid fun W => lNum_any k 0 W h3 h4 (by decide) (by decide))

theorem sMeet_any {b c : Bool} {s t : ByteArray} {e f : Int} {x y : Dyadic} {L T0 : Nat} {b' c' : Bool} {s' t' : ByteArray} {e' f' : Int} {x' y' : Dyadic} (w : World) (n1 : ND b s e x) (n2 : ND c t f y) (d1 : DB L T0 x) (d2 : DB L T0 y) (m1 : ND b' s' e' x') (m2 : ND c' t' f' y') (k1 : DB L T0 x') (k2 : DB L T0 y') (hLT : L + T0 ≤ 2900000) (hT : TabAt 0 Lib.deBruijn64tab w) :
    Calls Tryz.prog 30 #[.agg #[.bool b, .string s, .int .i64 e, .bool c, .string t, .int .i64 f], .agg #[.bool b', .string s', .int .i64 e', .bool c', .string t', .int .i64 f']] w fun r w' => r = .returned (if 0 < dsgn (dmax (dmin x y) (dmin x' y') - dmin (dmax x y) (dmax x' y')) then .tuple #[.agg #[.bool false, .string ⟨#[]⟩, .int .i64 0, .bool false, .string ⟨#[]⟩, .int .i64 0], .int .i64 4] else .tuple #[.agg #[.bool (neg (dm (dmax (dmin x y) (dmin x' y')))), .string (mag (dm (dmax (dmin x y) (dmin x' y')))), .int .i64 (de (dmax (dmin x y) (dmin x' y'))), .bool (neg (dm (dmin (dmax x y) (dmax x' y')))), .string (mag (dm (dmin (dmax x y) (dmax x' y')))), .int .i64 (de (dmin (dmax x y) (dmax x' y')))], .int .i64 0]) ∧ Below w.heap.size w w' := by
  have i1 := db_dmin d1 d2
  have i2 := db_dmax d1 d2
  have j1 := db_dmin k1 k2
  have j2 := db_dmax k1 k2
  have lo := db_dmax i1 j1
  have hi := db_dmin i2 j2
  have c1 := Lib.hid fun W h => sof_any W n1 n2 h
  have c2 := Lib.hid fun W h => sof_any W m1 m2 h
  have c3 := Lib.hid fun g W h (hx : Bx W g 25 #[.bool (neg (dm (dmin x y))), .string (mag (dm (dmin x y))), .int .i64 (de (dmin x y)), .bool (neg (dm (dmin x' y'))), .string (mag (dm (dmin x' y'))), .int .i64 (de (dmin x' y'))]) => dMax2N (nd_db i1 (by omega)) (nd_db j1 (by omega)) h hx
  have c4 := Lib.hid fun g W h (hx : Bx W g 25 #[.bool (neg (dm (dmax x y))), .string (mag (dm (dmax x y))), .int .i64 (de (dmax x y)), .bool (neg (dm (dmax x' y'))), .string (mag (dm (dmax x' y'))), .int .i64 (de (dmax x' y'))]) => dMin2N (nd_db i2 (by omega)) (nd_db j2 (by omega)) h hx
  have c5 := Lib.hid fun W h => dCmp_any W (nd_db lo (by omega)) (nd_db hi (by omega)) h
  split
  · rename_i hz
    exact sMeet_none _ _ _ _ _ _ _ _ _ _ _ _ _ _ _ _ _ _ _ w hz hT c1 c2 c3 c4 c5
  · rename_i hz
    exact sMeet_some _ _ _ _ _ _ _ _ _ _ _ _ _ _ _ _ _ _ _ w hz hT c1 c2 c3 c4 c5
theorem rdN3B {w : World} {g : Nat} {b1 b2 b3 : Bool} {s1 s2 s3 : ByteArray} {e1 e2 e3 : Int} {t : TypeId} (h : Bx w g t #[.bool b1, .string s1, .int .i64 e1, .bool b2, .string s2, .int .i64 e2, .bool b3, .string s3, .int .i64 e3]) : RdN w (some ⟨g, 0, none⟩) 3 (fun j => if j = 0 then b1 else if j = 1 then b2 else b3) (fun j => if j = 0 then s1 else if j = 1 then s2 else s3) (fun j => if j = 0 then e1 else if j = 1 then e2 else e3) := fun _ =>
  ⟨g, 0, rfl, fun j hj => by
    have : j = 0 ∨ j = 1 ∨ j = 2 := by omega
    rcases this with rfl | rfl | rfl
    · exact ⟨h.cel 0, h.cel 1, h.cel 2⟩
    · exact ⟨h.cel 3, h.cel 4, h.cel 5⟩
    · exact ⟨h.cel 6, h.cel 7, h.cel 8⟩⟩
theorem rdS2B {w : World} {g : Nat} {b1 b2 c1 c2 : Bool} {s1 s2 t1 t2 : ByteArray} {e1 e2 f1 f2 : Int} {t : TypeId} (h : Bx w g t #[.bool b1, .string s1, .int .i64 e1, .bool c1, .string t1, .int .i64 f1, .bool b2, .string s2, .int .i64 e2, .bool c2, .string t2, .int .i64 f2]) :
    RdS w (some ⟨g, 0, none⟩) 2 (fun j => if j = 0 then b1 else b2) (fun j => if j = 0 then s1 else s2) (fun j => if j = 0 then e1 else e2) (fun j => if j = 0 then c1 else c2) (fun j => if j = 0 then t1 else t2) (fun j => if j = 0 then f1 else f2) := fun _ =>
  ⟨g, 0, rfl, fun j hj => by
    have : j = 0 ∨ j = 1 := by omega
    rcases this with rfl | rfl
    · exact ⟨h.cel 0, h.cel 1, h.cel 2, h.cel 3, h.cel 4, h.cel 5⟩
    · exact ⟨h.cel 6, h.cel 7, h.cel 8, h.cel 9, h.cel 10, h.cel 11⟩⟩

end Go.Proofs.YtchfglbkiebfpaaGreatDoor

namespace Go.Proofs.YtchfglbkiebfpaaGreatDoor
open Go.RowKit

theorem sk1 (W : World) : Calls Tryz.prog 70 #[.int .i64 0, .int .i64 1] W fun r w' => r = .returned (.agg #[.bool false, .string ⟨#[]⟩, .int .i64 0, .bool false, .string ⟨#[1]⟩, .int .i64 0]) ∧ Below W.heap.size W w' :=
  (lTo_any (0) (1) W (by decide) (by decide) (by decide) (by decide)).mono fun _ _ ⟨he, hb⟩ => ⟨he.trans (congrArg Ending.returned (by kernel_rfl)), hb⟩
theorem sk2 (W : World) : Calls Tryz.prog 70 #[.int .i64 1, .int .i64 4] W fun r w' => r = .returned (.agg #[.bool false, .string ⟨#[1]⟩, .int .i64 0, .bool false, .string ⟨#[1]⟩, .int .i64 2]) ∧ Below W.heap.size W w' :=
  (lTo_any (1) (4) W (by decide) (by decide) (by decide) (by decide)).mono fun _ _ ⟨he, hb⟩ => ⟨he.trans (congrArg Ending.returned (by kernel_rfl)), hb⟩
theorem sk3 (W : World) (hT : TabAt 0 Lib.deBruijn64tab W) : Calls Tryz.prog 30 #[.agg #[.bool false, .string ⟨#[]⟩, .int .i64 0, .bool false, .string ⟨#[1]⟩, .int .i64 0], .agg #[.bool false, .string ⟨#[1]⟩, .int .i64 0, .bool false, .string ⟨#[1]⟩, .int .i64 2]] W fun r w' => r = .returned (.tuple #[.agg #[.bool false, .string ⟨#[1]⟩, .int .i64 0, .bool false, .string ⟨#[1]⟩, .int .i64 0], .int .i64 0]) ∧ Below W.heap.size W w' :=
  (sMeet_any W (show ND false ⟨#[]⟩ 0 (dy 0 0) from ⟨by kernel_rfl, by decide, by decide, by decide⟩) (show ND false ⟨#[1]⟩ 0 (dy 1 0) from ⟨by kernel_rfl, by decide, by decide, by decide⟩) (show DB 10 10 (dy 0 0) from ⟨0, by kernel_rfl, by decide⟩) (show DB 10 10 (dy 1 0) from ⟨1024, by kernel_rfl, by decide⟩) (show ND false ⟨#[1]⟩ 0 (dy 1 0) from ⟨by kernel_rfl, by decide, by decide, by decide⟩) (show ND false ⟨#[1]⟩ 2 (dy 1 2) from ⟨by kernel_rfl, by decide, by decide, by decide⟩) (show DB 10 10 (dy 1 0) from ⟨1024, by kernel_rfl, by decide⟩) (show DB 10 10 (dy 1 2) from ⟨4096, by kernel_rfl, by decide⟩) (by decide) hT).mono fun _ _ ⟨he, hb⟩ => ⟨he.trans (congrArg Ending.returned (by kernel_rfl)), hb⟩
theorem sk4 (W : World) : Calls Tryz.prog 70 #[.int .i64 3, .int .i64 4] W fun r w' => r = .returned (.agg #[.bool false, .string ⟨#[3]⟩, .int .i64 0, .bool false, .string ⟨#[1]⟩, .int .i64 2]) ∧ Below W.heap.size W w' :=
  (lTo_any (3) (4) W (by decide) (by decide) (by decide) (by decide)).mono fun _ _ ⟨he, hb⟩ => ⟨he.trans (congrArg Ending.returned (by kernel_rfl)), hb⟩
theorem sk5 (W : World) (hT : TabAt 0 Lib.deBruijn64tab W) : Calls Tryz.prog 30 #[.agg #[.bool false, .string ⟨#[]⟩, .int .i64 0, .bool false, .string ⟨#[1]⟩, .int .i64 0], .agg #[.bool false, .string ⟨#[3]⟩, .int .i64 0, .bool false, .string ⟨#[1]⟩, .int .i64 2]] W fun r w' => r = .returned (.tuple #[.agg #[.bool false, .string ⟨#[]⟩, .int .i64 0, .bool false, .string ⟨#[]⟩, .int .i64 0], .int .i64 4]) ∧ Below W.heap.size W w' :=
  (sMeet_any W (show ND false ⟨#[]⟩ 0 (dy 0 0) from ⟨by kernel_rfl, by decide, by decide, by decide⟩) (show ND false ⟨#[1]⟩ 0 (dy 1 0) from ⟨by kernel_rfl, by decide, by decide, by decide⟩) (show DB 10 10 (dy 0 0) from ⟨0, by kernel_rfl, by decide⟩) (show DB 10 10 (dy 1 0) from ⟨1024, by kernel_rfl, by decide⟩) (show ND false ⟨#[3]⟩ 0 (dy 3 0) from ⟨by kernel_rfl, by decide, by decide, by decide⟩) (show ND false ⟨#[1]⟩ 2 (dy 1 2) from ⟨by kernel_rfl, by decide, by decide, by decide⟩) (show DB 10 10 (dy 3 0) from ⟨3072, by kernel_rfl, by decide⟩) (show DB 10 10 (dy 1 2) from ⟨4096, by kernel_rfl, by decide⟩) (by decide) hT).mono fun _ _ ⟨he, hb⟩ => ⟨he.trans (congrArg Ending.returned (by kernel_rfl)), hb⟩
theorem sk6 (W : World) : Calls Tryz.prog 71 #[.int .i64 1, .int .i64 0] W fun r w' => r = .returned (.agg #[.bool false, .string ⟨#[1]⟩, .int .i64 0]) ∧ Below W.heap.size W w' :=
  (lNum_any 1 0 W (by decide) (by decide) (by decide) (by decide)).mono fun _ _ ⟨he, hb⟩ => ⟨he.trans (congrArg Ending.returned (by kernel_rfl)), hb⟩
theorem sk7 (W : World) : Calls Tryz.prog 71 #[.int .i64 3, .int .i64 0] W fun r w' => r = .returned (.agg #[.bool false, .string ⟨#[3]⟩, .int .i64 0]) ∧ Below W.heap.size W w' :=
  (lNum_any 3 0 W (by decide) (by decide) (by decide) (by decide)).mono fun _ _ ⟨he, hb⟩ => ⟨he.trans (congrArg Ending.returned (by kernel_rfl)), hb⟩
theorem sk8 (W : World) (hT : TabAt 0 Lib.deBruijn64tab W) : Calls Tryz.prog 23 #[.agg #[.bool false, .string ⟨#[1]⟩, .int .i64 0], .agg #[.bool false, .string ⟨#[3]⟩, .int .i64 0], .int .i64 2] W fun r w' => r = .returned (.tuple #[.agg #[.bool false, .string ⟨#[1]⟩, .int .i64 (-2), .bool false, .string ⟨#[1]⟩, .int .i64 (-1)], .int .i64 0]) ∧ Below W.heap.size W w' :=
  (sQuo_any (P := 10) 2 W (show ND false ⟨#[1]⟩ 0 (dy 1 0) from ⟨by kernel_rfl, by decide, by decide, by decide⟩) (show ND false ⟨#[3]⟩ 0 (dy 3 0) from ⟨by kernel_rfl, by decide, by decide, by decide⟩) (show DB 10 10 (dy 1 0) from ⟨1024, by kernel_rfl, by decide⟩) (show DB 10 10 (dy 3 0) from ⟨3072, by kernel_rfl, by decide⟩) (by decide) (by decide) (by decide) hT).mono fun _ _ ⟨he, hb⟩ => ⟨he.trans (congrArg Ending.returned (by kernel_rfl)), hb⟩
theorem sk9 (W : World) : Calls Tryz.prog 71 #[.int .i64 (-1), .int .i64 0] W fun r w' => r = .returned (.agg #[.bool true, .string ⟨#[1]⟩, .int .i64 0]) ∧ Below W.heap.size W w' :=
  (lNum_any (-1) 0 W (by decide) (by decide) (by decide) (by decide)).mono fun _ _ ⟨he, hb⟩ => ⟨he.trans (congrArg Ending.returned (by kernel_rfl)), hb⟩
theorem sk10 (W : World) (hT : TabAt 0 Lib.deBruijn64tab W) : Calls Tryz.prog 23 #[.agg #[.bool true, .string ⟨#[1]⟩, .int .i64 0], .agg #[.bool false, .string ⟨#[3]⟩, .int .i64 0], .int .i64 2] W fun r w' => r = .returned (.tuple #[.agg #[.bool true, .string ⟨#[1]⟩, .int .i64 (-1), .bool true, .string ⟨#[1]⟩, .int .i64 (-2)], .int .i64 0]) ∧ Below W.heap.size W w' :=
  (sQuo_any (P := 10) 2 W (show ND true ⟨#[1]⟩ 0 (dy (-1) 0) from ⟨by kernel_rfl, by decide, by decide, by decide⟩) (show ND false ⟨#[3]⟩ 0 (dy 3 0) from ⟨by kernel_rfl, by decide, by decide, by decide⟩) (show DB 10 10 (dy (-1) 0) from ⟨-1024, by kernel_rfl, by decide⟩) (show DB 10 10 (dy 3 0) from ⟨3072, by kernel_rfl, by decide⟩) (by decide) (by decide) (by decide) hT).mono fun _ _ ⟨he, hb⟩ => ⟨he.trans (congrArg Ending.returned (by kernel_rfl)), hb⟩
theorem sk11 (W : World) : Calls Tryz.prog 71 #[.int .i64 0, .int .i64 0] W fun r w' => r = .returned (.agg #[.bool false, .string ⟨#[]⟩, .int .i64 0]) ∧ Below W.heap.size W w' :=
  (lNum_any 0 0 W (by decide) (by decide) (by decide) (by decide)).mono fun _ _ ⟨he, hb⟩ => ⟨he.trans (congrArg Ending.returned (by kernel_rfl)), hb⟩
theorem sk12 (W : World) (hT : TabAt 0 Lib.deBruijn64tab W) : Calls Tryz.prog 23 #[.agg #[.bool false, .string ⟨#[1]⟩, .int .i64 0], .agg #[.bool false, .string ⟨#[]⟩, .int .i64 0], .int .i64 2] W fun r w' => r = .returned (.tuple #[.agg #[.bool false, .string ⟨#[]⟩, .int .i64 0, .bool false, .string ⟨#[]⟩, .int .i64 0], .int .i64 1]) ∧ Below W.heap.size W w' :=
  (sQuo_any (P := 10) 2 W (show ND false ⟨#[1]⟩ 0 (dy 1 0) from ⟨by kernel_rfl, by decide, by decide, by decide⟩) (show ND false ⟨#[]⟩ 0 (dy 0 0) from ⟨by kernel_rfl, by decide, by decide, by decide⟩) (show DB 10 10 (dy 1 0) from ⟨1024, by kernel_rfl, by decide⟩) (show DB 10 10 (dy 0 0) from ⟨0, by kernel_rfl, by decide⟩) (by decide) (by decide) (by decide) hT).mono fun _ _ ⟨he, hb⟩ => ⟨he.trans (congrArg Ending.returned (by kernel_rfl)), hb⟩
theorem sk13 (W : World) : Calls Tryz.prog 70 #[.int .i64 1, .int .i64 2] W fun r w' => r = .returned (.agg #[.bool false, .string ⟨#[1]⟩, .int .i64 0, .bool false, .string ⟨#[1]⟩, .int .i64 1]) ∧ Below W.heap.size W w' :=
  (lTo_any (1) (2) W (by decide) (by decide) (by decide) (by decide)).mono fun _ _ ⟨he, hb⟩ => ⟨he.trans (congrArg Ending.returned (by kernel_rfl)), hb⟩
theorem sk14 (W : World) (hT : TabAt 0 Lib.deBruijn64tab W) : Calls Tryz.prog 26 #[.agg #[.bool false, .string ⟨#[1]⟩, .int .i64 0, .bool false, .string ⟨#[1]⟩, .int .i64 1], .agg #[.bool false, .string ⟨#[3]⟩, .int .i64 0, .bool false, .string ⟨#[1]⟩, .int .i64 2], .int .i64 1] W fun r w' => r = .returned (.tuple #[.agg #[.bool false, .string ⟨#[]⟩, .int .i64 0, .bool false, .string ⟨#[1]⟩, .int .i64 0], .int .i64 0]) ∧ Below W.heap.size W w' :=
  (sDiv_any (P := 10) 1 W (show ND false ⟨#[1]⟩ 0 (dy 1 0) from ⟨by kernel_rfl, by decide, by decide, by decide⟩) (show ND false ⟨#[1]⟩ 1 (dy 1 1) from ⟨by kernel_rfl, by decide, by decide, by decide⟩) (show DB 10 10 (dy 1 0) from ⟨1024, by kernel_rfl, by decide⟩) (show DB 10 10 (dy 1 1) from ⟨2048, by kernel_rfl, by decide⟩) (show ND false ⟨#[3]⟩ 0 (dy 3 0) from ⟨by kernel_rfl, by decide, by decide, by decide⟩) (show ND false ⟨#[1]⟩ 2 (dy 1 2) from ⟨by kernel_rfl, by decide, by decide, by decide⟩) (show DB 10 10 (dy 3 0) from ⟨3072, by kernel_rfl, by decide⟩) (show DB 10 10 (dy 1 2) from ⟨4096, by kernel_rfl, by decide⟩) (by decide) (by decide) (by decide) hT).mono fun _ _ ⟨he, hb⟩ => ⟨he.trans (congrArg Ending.returned (by kernel_rfl)), hb⟩
theorem sk15 (W : World) : Calls Tryz.prog 70 #[.int .i64 (-1), .int .i64 1] W fun r w' => r = .returned (.agg #[.bool true, .string ⟨#[1]⟩, .int .i64 0, .bool false, .string ⟨#[1]⟩, .int .i64 0]) ∧ Below W.heap.size W w' :=
  (lTo_any (-1) (1) W (by decide) (by decide) (by decide) (by decide)).mono fun _ _ ⟨he, hb⟩ => ⟨he.trans (congrArg Ending.returned (by kernel_rfl)), hb⟩
theorem sk16 (W : World) (hT : TabAt 0 Lib.deBruijn64tab W) : Calls Tryz.prog 26 #[.agg #[.bool false, .string ⟨#[1]⟩, .int .i64 0, .bool false, .string ⟨#[1]⟩, .int .i64 1], .agg #[.bool true, .string ⟨#[1]⟩, .int .i64 0, .bool false, .string ⟨#[1]⟩, .int .i64 0], .int .i64 1] W fun r w' => r = .returned (.tuple #[.agg #[.bool false, .string ⟨#[]⟩, .int .i64 0, .bool false, .string ⟨#[]⟩, .int .i64 0], .int .i64 1]) ∧ Below W.heap.size W w' :=
  (sDiv_any (P := 10) 1 W (show ND false ⟨#[1]⟩ 0 (dy 1 0) from ⟨by kernel_rfl, by decide, by decide, by decide⟩) (show ND false ⟨#[1]⟩ 1 (dy 1 1) from ⟨by kernel_rfl, by decide, by decide, by decide⟩) (show DB 10 10 (dy 1 0) from ⟨1024, by kernel_rfl, by decide⟩) (show DB 10 10 (dy 1 1) from ⟨2048, by kernel_rfl, by decide⟩) (show ND true ⟨#[1]⟩ 0 (dy (-1) 0) from ⟨by kernel_rfl, by decide, by decide, by decide⟩) (show ND false ⟨#[1]⟩ 0 (dy 1 0) from ⟨by kernel_rfl, by decide, by decide, by decide⟩) (show DB 10 10 (dy (-1) 0) from ⟨-1024, by kernel_rfl, by decide⟩) (show DB 10 10 (dy 1 0) from ⟨1024, by kernel_rfl, by decide⟩) (by decide) (by decide) (by decide) hT).mono fun _ _ ⟨he, hb⟩ => ⟨he.trans (congrArg Ending.returned (by kernel_rfl)), hb⟩
theorem sk17 (W : World) : Calls Tryz.prog 70 #[.int .i64 1, .int .i64 1] W fun r w' => r = .returned (.agg #[.bool false, .string ⟨#[1]⟩, .int .i64 0, .bool false, .string ⟨#[1]⟩, .int .i64 0]) ∧ Below W.heap.size W w' :=
  (lTo_any (1) (1) W (by decide) (by decide) (by decide) (by decide)).mono fun _ _ ⟨he, hb⟩ => ⟨he.trans (congrArg Ending.returned (by kernel_rfl)), hb⟩
theorem sk18 (W : World) : Calls Tryz.prog 71 #[.int .i64 1, .int .i64 (-2)] W fun r w' => r = .returned (.agg #[.bool false, .string ⟨#[1]⟩, .int .i64 (-2)]) ∧ Below W.heap.size W w' :=
  (lNum_any 1 (-2) W (by decide) (by decide) (by decide) (by decide)).mono fun _ _ ⟨he, hb⟩ => ⟨he.trans (congrArg Ending.returned (by kernel_rfl)), hb⟩
theorem sk19 (W : World) : Calls Tryz.prog 71 #[.int .i64 1, .int .i64 (-1)] W fun r w' => r = .returned (.agg #[.bool false, .string ⟨#[1]⟩, .int .i64 (-1)]) ∧ Below W.heap.size W w' :=
  (lNum_any 1 (-1) W (by decide) (by decide) (by decide) (by decide)).mono fun _ _ ⟨he, hb⟩ => ⟨he.trans (congrArg Ending.returned (by kernel_rfl)), hb⟩
theorem sk20 (W : World) : Calls Tryz.prog 71 #[.int .i64 (-1), .int .i64 (-1)] W fun r w' => r = .returned (.agg #[.bool true, .string ⟨#[1]⟩, .int .i64 (-1)]) ∧ Below W.heap.size W w' :=
  (lNum_any (-1) (-1) W (by decide) (by decide) (by decide) (by decide)).mono fun _ _ ⟨he, hb⟩ => ⟨he.trans (congrArg Ending.returned (by kernel_rfl)), hb⟩
theorem sk21 (W : World) : Calls Tryz.prog 71 #[.int .i64 2, .int .i64 0] W fun r w' => r = .returned (.agg #[.bool false, .string ⟨#[1]⟩, .int .i64 1]) ∧ Below W.heap.size W w' :=
  (lNum_any 2 0 W (by decide) (by decide) (by decide) (by decide)).mono fun _ _ ⟨he, hb⟩ => ⟨he.trans (congrArg Ending.returned (by kernel_rfl)), hb⟩
theorem sk22 {g : Nat} (W : World) (hT : TabAt 0 Lib.deBruijn64tab W) (h : Bx W g 25 #[.bool false, .string ⟨#[3]⟩, .int .i64 0, .bool false, .string ⟨#[1]⟩, .int .i64 0, .bool false, .string ⟨#[1]⟩, .int .i64 1]) : Calls Tryz.prog 46 #[.slice (some ⟨g, 0, none⟩) 3 3] W fun r w' => r = .returned (.agg #[.bool false, .string ⟨#[1]⟩, .int .i64 0, .bool false, .string ⟨#[3]⟩, .int .i64 0]) ∧ Below W.heap.size W w' :=
  (sOf_any _ 3 3 _ _ _ (fun j => if j = 0 then (dy 3 0) else if j = 1 then (dy 1 0) else (dy 1 1)) W (by decide) (fun j => if h0 : j = 0 then (by subst h0; exact (show ND false ⟨#[3]⟩ 0 (dy 3 0) from ⟨by kernel_rfl, by decide, by decide, by decide⟩)) else if h1 : j = 1 then (by subst h1; exact (show ND false ⟨#[1]⟩ 0 (dy 1 0) from ⟨by kernel_rfl, by decide, by decide, by decide⟩)) else (by simp only [h0, h1, if_false]; exact (show ND false ⟨#[1]⟩ 1 (dy 1 1) from ⟨by kernel_rfl, by decide, by decide, by decide⟩))) (rdN3B h) hT).mono fun _ _ ⟨he, hb⟩ => ⟨he.trans (congrArg Ending.returned (by kernel_rfl)), hb⟩
theorem sk23 (W : World) : Calls Tryz.prog 70 #[.int .i64 1, .int .i64 3] W fun r w' => r = .returned (.agg #[.bool false, .string ⟨#[1]⟩, .int .i64 0, .bool false, .string ⟨#[3]⟩, .int .i64 0]) ∧ Below W.heap.size W w' :=
  (lTo_any (1) (3) W (by decide) (by decide) (by decide) (by decide)).mono fun _ _ ⟨he, hb⟩ => ⟨he.trans (congrArg Ending.returned (by kernel_rfl)), hb⟩
theorem sk24 (W : World) : Calls Tryz.prog 70 #[.int .i64 3, .int .i64 1] W fun r w' => r = .returned (.agg #[.bool false, .string ⟨#[3]⟩, .int .i64 0, .bool false, .string ⟨#[1]⟩, .int .i64 0]) ∧ Below W.heap.size W w' :=
  (lTo_any (3) (1) W (by decide) (by decide) (by decide) (by decide)).mono fun _ _ ⟨he, hb⟩ => ⟨he.trans (congrArg Ending.returned (by kernel_rfl)), hb⟩
theorem sk25 (W : World) (hT : TabAt 0 Lib.deBruijn64tab W) : Calls Tryz.prog 40 #[.agg #[.bool false, .string ⟨#[3]⟩, .int .i64 0, .bool false, .string ⟨#[1]⟩, .int .i64 0]] W fun r w' => r = .returned (.agg #[.bool false, .string ⟨#[1]⟩, .int .i64 0, .bool false, .string ⟨#[3]⟩, .int .i64 0]) ∧ Below W.heap.size W w' :=
  (sForm_any W (show ND false ⟨#[3]⟩ 0 (dy 3 0) from ⟨by kernel_rfl, by decide, by decide, by decide⟩) (show ND false ⟨#[1]⟩ 0 (dy 1 0) from ⟨by kernel_rfl, by decide, by decide, by decide⟩) hT).mono fun _ _ ⟨he, hb⟩ => ⟨he.trans (congrArg Ending.returned (by kernel_rfl)), hb⟩
theorem sk26 (W : World) (hT : TabAt 0 Lib.deBruijn64tab W) : Calls Tryz.prog 37 #[.agg #[.bool false, .string ⟨#[3]⟩, .int .i64 0, .bool false, .string ⟨#[1]⟩, .int .i64 0], .agg #[.bool false, .string ⟨#[1]⟩, .int .i64 1]] W fun r w' => r = .returned (.bool true) ∧ Below W.heap.size W w' :=
  (sHas_any W (show ND false ⟨#[3]⟩ 0 (dy 3 0) from ⟨by kernel_rfl, by decide, by decide, by decide⟩) (show ND false ⟨#[1]⟩ 0 (dy 1 0) from ⟨by kernel_rfl, by decide, by decide, by decide⟩) (show ND false ⟨#[1]⟩ 1 (dy 1 1) from ⟨by kernel_rfl, by decide, by decide, by decide⟩) (show DB 10 10 (dy 3 0) from ⟨3072, by kernel_rfl, by decide⟩) (show DB 10 10 (dy 1 0) from ⟨1024, by kernel_rfl, by decide⟩) (by decide) hT).mono fun _ _ ⟨he, hb⟩ => ⟨he.trans (congrArg Ending.returned (by kernel_rfl)), hb⟩
theorem sk27 {g : Nat} (W : World) (hT : TabAt 0 Lib.deBruijn64tab W) (h : Bx W g 27 #[.bool false, .string ⟨#[]⟩, .int .i64 0, .bool false, .string ⟨#[1]⟩, .int .i64 0, .bool false, .string ⟨#[3]⟩, .int .i64 0, .bool false, .string ⟨#[1]⟩, .int .i64 2]) : Calls Tryz.prog 34 #[.slice (some ⟨g, 0, none⟩) 2 2] W fun r w' => r = .returned (.agg #[.bool false, .string ⟨#[]⟩, .int .i64 0, .bool false, .string ⟨#[1]⟩, .int .i64 2]) ∧ Below W.heap.size W w' :=
  (sHull_any _ 2 2 _ _ _ _ _ _ (fun j => if j = 0 then (dy 0 0) else (dy 3 0)) (fun j => if j = 0 then (dy 1 0) else (dy 1 2)) W (by decide) (fun j => if h0 : j = 0 then (by subst h0; exact (show ND false ⟨#[]⟩ 0 (dy 0 0) from ⟨by kernel_rfl, by decide, by decide, by decide⟩)) else (by simp only [h0, if_false]; exact (show ND false ⟨#[3]⟩ 0 (dy 3 0) from ⟨by kernel_rfl, by decide, by decide, by decide⟩))) (fun j => if h0 : j = 0 then (by subst h0; exact (show ND false ⟨#[1]⟩ 0 (dy 1 0) from ⟨by kernel_rfl, by decide, by decide, by decide⟩)) else (by simp only [h0, if_false]; exact (show ND false ⟨#[1]⟩ 2 (dy 1 2) from ⟨by kernel_rfl, by decide, by decide, by decide⟩))) (rdS2B h) hT).mono fun _ _ ⟨he, hb⟩ => ⟨he.trans (congrArg Ending.returned (by kernel_rfl)), hb⟩
theorem sk28 (W : World) : Calls Tryz.prog 70 #[.int .i64 0, .int .i64 4] W fun r w' => r = .returned (.agg #[.bool false, .string ⟨#[]⟩, .int .i64 0, .bool false, .string ⟨#[1]⟩, .int .i64 2]) ∧ Below W.heap.size W w' :=
  (lTo_any (0) (4) W (by decide) (by decide) (by decide) (by decide)).mono fun _ _ ⟨he, hb⟩ => ⟨he.trans (congrArg Ending.returned (by kernel_rfl)), hb⟩
theorem sk29 {g : Nat} (W : World) (hT : TabAt 0 Lib.deBruijn64tab W) (h : Bx W g 27 #[.bool false, .string ⟨#[]⟩, .int .i64 0, .bool false, .string ⟨#[1]⟩, .int .i64 0, .bool false, .string ⟨#[3]⟩, .int .i64 0, .bool false, .string ⟨#[1]⟩, .int .i64 2]) : Calls Tryz.prog 16 #[.slice (some ⟨g, 0, none⟩) 2 2] W fun r w' => r = .returned (.agg #[.bool false, .string ⟨#[3]⟩, .int .i64 0, .bool false, .string ⟨#[5]⟩, .int .i64 0]) ∧ Below W.heap.size W w' :=
  (sAdd_any _ 2 2 _ _ _ _ _ _ (fun j => if j = 0 then (dy 0 0) else (dy 3 0)) (fun j => if j = 0 then (dy 1 0) else (dy 1 2)) 10 10 W (by decide) (fun j => if h0 : j = 0 then (by subst h0; exact (show ND false ⟨#[]⟩ 0 (dy 0 0) from ⟨by kernel_rfl, by decide, by decide, by decide⟩)) else (by simp only [h0, if_false]; exact (show ND false ⟨#[3]⟩ 0 (dy 3 0) from ⟨by kernel_rfl, by decide, by decide, by decide⟩))) (fun j => if h0 : j = 0 then (by subst h0; exact (show ND false ⟨#[1]⟩ 0 (dy 1 0) from ⟨by kernel_rfl, by decide, by decide, by decide⟩)) else (by simp only [h0, if_false]; exact (show ND false ⟨#[1]⟩ 2 (dy 1 2) from ⟨by kernel_rfl, by decide, by decide, by decide⟩))) (fun j => if h0 : j = 0 then (by subst h0; exact (show DB 10 10 (dy 0 0) from ⟨0, by kernel_rfl, by decide⟩)) else (by simp only [h0, if_false]; exact (show DB 10 10 (dy 3 0) from ⟨3072, by kernel_rfl, by decide⟩))) (fun j => if h0 : j = 0 then (by subst h0; exact (show DB 10 10 (dy 1 0) from ⟨1024, by kernel_rfl, by decide⟩)) else (by simp only [h0, if_false]; exact (show DB 10 10 (dy 1 2) from ⟨4096, by kernel_rfl, by decide⟩))) (by decide) (rdS2B h) hT).mono fun _ _ ⟨he, hb⟩ => ⟨he.trans (congrArg Ending.returned (by kernel_rfl)), hb⟩
theorem sk30 (W : World) : Calls Tryz.prog 70 #[.int .i64 3, .int .i64 5] W fun r w' => r = .returned (.agg #[.bool false, .string ⟨#[3]⟩, .int .i64 0, .bool false, .string ⟨#[5]⟩, .int .i64 0]) ∧ Below W.heap.size W w' :=
  (lTo_any (3) (5) W (by decide) (by decide) (by decide) (by decide)).mono fun _ _ ⟨he, hb⟩ => ⟨he.trans (congrArg Ending.returned (by kernel_rfl)), hb⟩
theorem sk31 (W : World) : Calls Tryz.prog 70 #[.int .i64 (-1), .int .i64 2] W fun r w' => r = .returned (.agg #[.bool true, .string ⟨#[1]⟩, .int .i64 0, .bool false, .string ⟨#[1]⟩, .int .i64 1]) ∧ Below W.heap.size W w' :=
  (lTo_any (-1) (2) W (by decide) (by decide) (by decide) (by decide)).mono fun _ _ ⟨he, hb⟩ => ⟨he.trans (congrArg Ending.returned (by kernel_rfl)), hb⟩
theorem sk32 (W : World) (hT : TabAt 0 Lib.deBruijn64tab W) : Calls Tryz.prog 20 #[.agg #[.bool true, .string ⟨#[1]⟩, .int .i64 0, .bool false, .string ⟨#[1]⟩, .int .i64 1], .agg #[.bool false, .string ⟨#[3]⟩, .int .i64 0, .bool false, .string ⟨#[1]⟩, .int .i64 2]] W fun r w' => r = .returned (.agg #[.bool true, .string ⟨#[1]⟩, .int .i64 2, .bool false, .string ⟨#[1]⟩, .int .i64 3]) ∧ Below W.heap.size W w' :=
  (sMul_any W (show ND true ⟨#[1]⟩ 0 (dy (-1) 0) from ⟨by kernel_rfl, by decide, by decide, by decide⟩) (show ND false ⟨#[1]⟩ 1 (dy 1 1) from ⟨by kernel_rfl, by decide, by decide, by decide⟩) (show ND false ⟨#[3]⟩ 0 (dy 3 0) from ⟨by kernel_rfl, by decide, by decide, by decide⟩) (show ND false ⟨#[1]⟩ 2 (dy 1 2) from ⟨by kernel_rfl, by decide, by decide, by decide⟩) (show DB 10 10 (dy (-1) 0) from ⟨-1024, by kernel_rfl, by decide⟩) (show DB 10 10 (dy 1 1) from ⟨2048, by kernel_rfl, by decide⟩) (show DB 10 10 (dy 3 0) from ⟨3072, by kernel_rfl, by decide⟩) (show DB 10 10 (dy 1 2) from ⟨4096, by kernel_rfl, by decide⟩) (by decide) hT).mono fun _ _ ⟨he, hb⟩ => ⟨he.trans (congrArg Ending.returned (by kernel_rfl)), hb⟩
theorem sk33 (W : World) : Calls Tryz.prog 70 #[.int .i64 (-4), .int .i64 8] W fun r w' => r = .returned (.agg #[.bool true, .string ⟨#[1]⟩, .int .i64 2, .bool false, .string ⟨#[1]⟩, .int .i64 3]) ∧ Below W.heap.size W w' :=
  (lTo_any (-4) (8) W (by decide) (by decide) (by decide) (by decide)).mono fun _ _ ⟨he, hb⟩ => ⟨he.trans (congrArg Ending.returned (by kernel_rfl)), hb⟩
theorem sk34 (W : World) (hT : TabAt 0 Lib.deBruijn64tab W) : Calls Tryz.prog 18 #[.agg #[.bool false, .string ⟨#[]⟩, .int .i64 0, .bool false, .string ⟨#[1]⟩, .int .i64 0]] W fun r w' => r = .returned (.agg #[.bool true, .string ⟨#[1]⟩, .int .i64 0, .bool false, .string ⟨#[]⟩, .int .i64 0]) ∧ Below W.heap.size W w' :=
  (sNeg_any W (show ND false ⟨#[]⟩ 0 (dy 0 0) from ⟨by kernel_rfl, by decide, by decide, by decide⟩) (show ND false ⟨#[1]⟩ 0 (dy 1 0) from ⟨by kernel_rfl, by decide, by decide, by decide⟩) (show DB 10 10 (dy 0 0) from ⟨0, by kernel_rfl, by decide⟩) (show DB 10 10 (dy 1 0) from ⟨1024, by kernel_rfl, by decide⟩) (by decide) hT).mono fun _ _ ⟨he, hb⟩ => ⟨he.trans (congrArg Ending.returned (by kernel_rfl)), hb⟩
theorem sk35 (W : World) : Calls Tryz.prog 70 #[.int .i64 (-1), .int .i64 0] W fun r w' => r = .returned (.agg #[.bool true, .string ⟨#[1]⟩, .int .i64 0, .bool false, .string ⟨#[]⟩, .int .i64 0]) ∧ Below W.heap.size W w' :=
  (lTo_any (-1) (0) W (by decide) (by decide) (by decide) (by decide)).mono fun _ _ ⟨he, hb⟩ => ⟨he.trans (congrArg Ending.returned (by kernel_rfl)), hb⟩
theorem sk36 (W : World) : Calls Tryz.prog 71 #[.int .i64 3, .int .i64 (-3)] W fun r w' => r = .returned (.agg #[.bool false, .string ⟨#[3]⟩, .int .i64 (-3)]) ∧ Below W.heap.size W w' :=
  (lNum_any 3 (-3) W (by decide) (by decide) (by decide) (by decide)).mono fun _ _ ⟨he, hb⟩ => ⟨he.trans (congrArg Ending.returned (by kernel_rfl)), hb⟩
theorem sk37 (W : World) : Calls Tryz.prog 71 #[.int .i64 5, .int .i64 (-3)] W fun r w' => r = .returned (.agg #[.bool false, .string ⟨#[5]⟩, .int .i64 (-3)]) ∧ Below W.heap.size W w' :=
  (lNum_any 5 (-3) W (by decide) (by decide) (by decide) (by decide)).mono fun _ _ ⟨he, hb⟩ => ⟨he.trans (congrArg Ending.returned (by kernel_rfl)), hb⟩
theorem sk38 (W : World) (hT : TabAt 0 Lib.deBruijn64tab W) : Calls Tryz.prog 28 #[.agg #[.bool false, .string ⟨#[3]⟩, .int .i64 (-3), .bool false, .string ⟨#[5]⟩, .int .i64 (-3)], .int .i64 1] W fun r w' => r = .returned (.agg #[.bool false, .string ⟨#[]⟩, .int .i64 0, .bool false, .string ⟨#[1]⟩, .int .i64 0]) ∧ Below W.heap.size W w' :=
  (sOut_any 1 W (show ND false ⟨#[3]⟩ (-3) (dy 3 (-3)) from ⟨by kernel_rfl, by decide, by decide, by decide⟩) (show ND false ⟨#[5]⟩ (-3) (dy 5 (-3)) from ⟨by kernel_rfl, by decide, by decide, by decide⟩) (show DB 10 10 (dy 3 (-3)) from ⟨384, by kernel_rfl, by decide⟩) (show DB 10 10 (dy 5 (-3)) from ⟨640, by kernel_rfl, by decide⟩) (by decide) (by decide) (by decide) hT).mono fun _ _ ⟨he, hb⟩ => ⟨he.trans (congrArg Ending.returned (by kernel_rfl)), hb⟩
set_option maxRecDepth 100000 in
set_option maxHeartbeats 8000000 in
theorem sawake_any (w : World) (hT : TabAt 0 Lib.deBruijn64tab w)
    :
    Calls Tryz.prog 15 #[] w fun r w' => r = .returned (.bool true) ∧ Below w.heap.size w w' := by
  have HT := Lib.hid hT
  clear hT
  go_enter Tryz.func15, Tryz.ntmps15
  have hB := Below.refl w.heap.size w
  go_wp2_with fail
  refine (sk1 _).mono ?_
  rintro e w1 ⟨rfl, hb⟩
  replace hB := nxt hB hb
  clear hb
  go_wp2_with fail
  refine (sk2 _).mono ?_
  rintro e w2 ⟨rfl, hb⟩
  replace hB := nxt hB hb
  clear hb
  go_wp2_with fail
  refine (sk3 _ (tab_keep HT.out hB)).mono ?_
  rintro e w3 ⟨rfl, hb⟩
  replace hB := nxt hB hb
  clear hb
  have X1 := Bx.new w3 27 #[.bool false, .string ⟨#[1]⟩, .int .i64 0, .bool false, .string ⟨#[1]⟩, .int .i64 0]
  replace hB := nxtA hB (.cells #[.bool false, .string ⟨#[1]⟩, .int .i64 0, .bool false, .string ⟨#[1]⟩, .int .i64 0] 27)
  go_wp2_with fail
  refine (sk1 _).mono ?_
  rintro e w4 ⟨rfl, hb⟩
  replace X1 := X1.later hb
  replace hB := nxt hB hb
  clear hb
  generalize w3.heap.size = g2_ at *
  go_wp2_with fail
  refine (sk4 _).mono ?_
  rintro e w5 ⟨rfl, hb⟩
  replace X1 := X1.later hb
  replace hB := nxt hB hb
  clear hb
  go_wp2_with fail
  refine (sk5 _ (tab_keep HT.out hB)).mono ?_
  rintro e w6 ⟨rfl, hb⟩
  replace X1 := X1.later hb
  replace hB := nxt hB hb
  clear hb
  have X2 := Bx.new w6 27 #[.bool false, .string ⟨#[]⟩, .int .i64 0, .bool false, .string ⟨#[]⟩, .int .i64 0]
  replace X1 := Bx.alloc X1 (.cells #[.bool false, .string ⟨#[]⟩, .int .i64 0, .bool false, .string ⟨#[]⟩, .int .i64 0] 27)
  replace hB := nxtA hB (.cells #[.bool false, .string ⟨#[]⟩, .int .i64 0, .bool false, .string ⟨#[]⟩, .int .i64 0] 27)
  clear X2
  go_wp2_with fail
  refine (sk6 _).mono ?_
  rintro e w7 ⟨rfl, hb⟩
  replace X1 := X1.later hb
  replace hB := nxt hB hb
  clear hb
  go_wp2_with fail
  refine (sk7 _).mono ?_
  rintro e w8 ⟨rfl, hb⟩
  replace X1 := X1.later hb
  replace hB := nxt hB hb
  clear hb
  go_wp2_with fail
  refine (sk8 _ (tab_keep HT.out hB)).mono ?_
  rintro e w9 ⟨rfl, hb⟩
  replace X1 := X1.later hb
  replace hB := nxt hB hb
  clear hb
  have X3 := Bx.new w9 27 #[.bool false, .string ⟨#[1]⟩, .int .i64 (-2), .bool false, .string ⟨#[1]⟩, .int .i64 (-1)]
  replace X1 := Bx.alloc X1 (.cells #[.bool false, .string ⟨#[1]⟩, .int .i64 (-2), .bool false, .string ⟨#[1]⟩, .int .i64 (-1)] 27)
  replace hB := nxtA hB (.cells #[.bool false, .string ⟨#[1]⟩, .int .i64 (-2), .bool false, .string ⟨#[1]⟩, .int .i64 (-1)] 27)
  go_wp2_with fail
  refine (sk9 _).mono ?_
  rintro e w10 ⟨rfl, hb⟩
  replace X1 := X1.later hb
  replace X3 := X3.later hb
  replace hB := nxt hB hb
  clear hb
  generalize w9.heap.size = g5_ at *
  go_wp2_with fail
  refine (sk7 _).mono ?_
  rintro e w11 ⟨rfl, hb⟩
  replace X1 := X1.later hb
  replace X3 := X3.later hb
  replace hB := nxt hB hb
  clear hb
  go_wp2_with fail
  refine (sk10 _ (tab_keep HT.out hB)).mono ?_
  rintro e w12 ⟨rfl, hb⟩
  replace X1 := X1.later hb
  replace X3 := X3.later hb
  replace hB := nxt hB hb
  clear hb
  have X4 := Bx.new w12 27 #[.bool true, .string ⟨#[1]⟩, .int .i64 (-1), .bool true, .string ⟨#[1]⟩, .int .i64 (-2)]
  replace X1 := Bx.alloc X1 (.cells #[.bool true, .string ⟨#[1]⟩, .int .i64 (-1), .bool true, .string ⟨#[1]⟩, .int .i64 (-2)] 27)
  replace X3 := Bx.alloc X3 (.cells #[.bool true, .string ⟨#[1]⟩, .int .i64 (-1), .bool true, .string ⟨#[1]⟩, .int .i64 (-2)] 27)
  replace hB := nxtA hB (.cells #[.bool true, .string ⟨#[1]⟩, .int .i64 (-1), .bool true, .string ⟨#[1]⟩, .int .i64 (-2)] 27)
  go_wp2_with fail
  refine (sk6 _).mono ?_
  rintro e w13 ⟨rfl, hb⟩
  replace X1 := X1.later hb
  replace X3 := X3.later hb
  replace X4 := X4.later hb
  replace hB := nxt hB hb
  clear hb
  generalize w12.heap.size = g7_ at *
  go_wp2_with fail
  refine (sk11 _).mono ?_
  rintro e w14 ⟨rfl, hb⟩
  replace X1 := X1.later hb
  replace X3 := X3.later hb
  replace X4 := X4.later hb
  replace hB := nxt hB hb
  clear hb
  go_wp2_with fail
  refine (sk12 _ (tab_keep HT.out hB)).mono ?_
  rintro e w15 ⟨rfl, hb⟩
  replace X1 := X1.later hb
  replace X3 := X3.later hb
  replace X4 := X4.later hb
  replace hB := nxt hB hb
  clear hb
  have X5 := Bx.new w15 27 #[.bool false, .string ⟨#[]⟩, .int .i64 0, .bool false, .string ⟨#[]⟩, .int .i64 0]
  replace X1 := Bx.alloc X1 (.cells #[.bool false, .string ⟨#[]⟩, .int .i64 0, .bool false, .string ⟨#[]⟩, .int .i64 0] 27)
  replace X3 := Bx.alloc X3 (.cells #[.bool false, .string ⟨#[]⟩, .int .i64 0, .bool false, .string ⟨#[]⟩, .int .i64 0] 27)
  replace X4 := Bx.alloc X4 (.cells #[.bool false, .string ⟨#[]⟩, .int .i64 0, .bool false, .string ⟨#[]⟩, .int .i64 0] 27)
  replace hB := nxtA hB (.cells #[.bool false, .string ⟨#[]⟩, .int .i64 0, .bool false, .string ⟨#[]⟩, .int .i64 0] 27)
  clear X5
  go_wp2_with fail
  refine (sk13 _).mono ?_
  rintro e w16 ⟨rfl, hb⟩
  replace X1 := X1.later hb
  replace X3 := X3.later hb
  replace X4 := X4.later hb
  replace hB := nxt hB hb
  clear hb
  go_wp2_with fail
  refine (sk4 _).mono ?_
  rintro e w17 ⟨rfl, hb⟩
  replace X1 := X1.later hb
  replace X3 := X3.later hb
  replace X4 := X4.later hb
  replace hB := nxt hB hb
  clear hb
  go_wp2_with fail
  refine (sk14 _ (tab_keep HT.out hB)).mono ?_
  rintro e w18 ⟨rfl, hb⟩
  replace X1 := X1.later hb
  replace X3 := X3.later hb
  replace X4 := X4.later hb
  replace hB := nxt hB hb
  clear hb
  have X6 := Bx.new w18 27 #[.bool false, .string ⟨#[]⟩, .int .i64 0, .bool false, .string ⟨#[1]⟩, .int .i64 0]
  replace X1 := Bx.alloc X1 (.cells #[.bool false, .string ⟨#[]⟩, .int .i64 0, .bool false, .string ⟨#[1]⟩, .int .i64 0] 27)
  replace X3 := Bx.alloc X3 (.cells #[.bool false, .string ⟨#[]⟩, .int .i64 0, .bool false, .string ⟨#[1]⟩, .int .i64 0] 27)
  replace X4 := Bx.alloc X4 (.cells #[.bool false, .string ⟨#[]⟩, .int .i64 0, .bool false, .string ⟨#[1]⟩, .int .i64 0] 27)
  replace hB := nxtA hB (.cells #[.bool false, .string ⟨#[]⟩, .int .i64 0, .bool false, .string ⟨#[1]⟩, .int .i64 0] 27)
  go_wp2_with fail
  refine (sk13 _).mono ?_
  rintro e w19 ⟨rfl, hb⟩
  replace X1 := X1.later hb
  replace X3 := X3.later hb
  replace X4 := X4.later hb
  replace X6 := X6.later hb
  replace hB := nxt hB hb
  clear hb
  generalize w18.heap.size = g10_ at *
  go_wp2_with fail
  refine (sk15 _).mono ?_
  rintro e w20 ⟨rfl, hb⟩
  replace X1 := X1.later hb
  replace X3 := X3.later hb
  replace X4 := X4.later hb
  replace X6 := X6.later hb
  replace hB := nxt hB hb
  clear hb
  go_wp2_with fail
  refine (sk16 _ (tab_keep HT.out hB)).mono ?_
  rintro e w21 ⟨rfl, hb⟩
  replace X1 := X1.later hb
  replace X3 := X3.later hb
  replace X4 := X4.later hb
  replace X6 := X6.later hb
  replace hB := nxt hB hb
  clear hb
  have X7 := Bx.new w21 27 #[.bool false, .string ⟨#[]⟩, .int .i64 0, .bool false, .string ⟨#[]⟩, .int .i64 0]
  replace X1 := Bx.alloc X1 (.cells #[.bool false, .string ⟨#[]⟩, .int .i64 0, .bool false, .string ⟨#[]⟩, .int .i64 0] 27)
  replace X3 := Bx.alloc X3 (.cells #[.bool false, .string ⟨#[]⟩, .int .i64 0, .bool false, .string ⟨#[]⟩, .int .i64 0] 27)
  replace X4 := Bx.alloc X4 (.cells #[.bool false, .string ⟨#[]⟩, .int .i64 0, .bool false, .string ⟨#[]⟩, .int .i64 0] 27)
  replace X6 := Bx.alloc X6 (.cells #[.bool false, .string ⟨#[]⟩, .int .i64 0, .bool false, .string ⟨#[]⟩, .int .i64 0] 27)
  replace hB := nxtA hB (.cells #[.bool false, .string ⟨#[]⟩, .int .i64 0, .bool false, .string ⟨#[]⟩, .int .i64 0] 27)
  clear X7
  go_upto_region 8 with (fail)
  generalize w21.alloc (.cells #[.bool false, .string ⟨#[]⟩, .int .i64 0, .bool false, .string ⟨#[]⟩, .int .i64 0] 27) = w22 at *
  refine wp_region_k [57, 58, 59, 60, 61, 62, 63, 64, 65, 66, 67, 68, 69, 70, 71, 72, 73, 74, 75, 76, 77, 78, 79, 80, 81, 82, 83, 84, 85, 86, 87, 88, 89, 90, 91, 92, 93, 94, 95, 96, 97, 98, 99, 100, 101, 102, 103, 104, 105, 106] [.eq (.agg #[.bool false, .string ⟨#[1]⟩, .int .i64 0, .bool false, .string ⟨#[1]⟩, .int .i64 0]), .eq (.agg #[.bool false, .string ⟨#[1]⟩, .int .i64 0, .bool false, .string ⟨#[1]⟩, .int .i64 0]), .eq (.bool false), .eq (.bool false), .eq (.int .i64 0), .eq (.bool false), .eq (.bool false), .eq (.bool false), .eq (.int .i64 4), .eq (.bool false), .eq (.bool false), .eq (.bool false), .eq (.pointer (some ⟨g5_, 0, none⟩)), .eq (.agg #[.bool false, .string ⟨#[1]⟩, .int .i64 (-2)]), .eq (.agg #[.bool false, .string ⟨#[1]⟩, .int .i64 (-2)]), .eq (.bool false), .eq (.bool false), .eq (.bool false), .eq (.pointer (some ⟨g5_, 3, none⟩)), .eq (.agg #[.bool false, .string ⟨#[1]⟩, .int .i64 (-1)]), .eq (.agg #[.bool false, .string ⟨#[1]⟩, .int .i64 (-1)]), .eq (.bool false), .eq (.bool false), .eq (.bool false), .eq (.int .i64 0), .eq (.bool false), .eq (.bool false), .eq (.bool false), .eq (.pointer (some ⟨g7_, 0, none⟩)), .eq (.agg #[.bool true, .string ⟨#[1]⟩, .int .i64 (-1)]), .eq (.agg #[.bool true, .string ⟨#[1]⟩, .int .i64 (-1)]), .eq (.bool false), .eq (.bool false), .eq (.bool false), .eq (.int .i64 1), .eq (.bool false), .eq (.bool false), .eq (.bool false), .eq (.agg #[.bool false, .string ⟨#[]⟩, .int .i64 0, .bool false, .string ⟨#[1]⟩, .int .i64 0]), .eq (.agg #[.bool false, .string ⟨#[]⟩, .int .i64 0, .bool false, .string ⟨#[1]⟩, .int .i64 0]), .eq (.bool false), .eq (.bool false), .eq (.bool false), .eq (.int .i64 0), .eq (.bool false), .eq (.bool false), .eq (.bool false), .eq (.int .i64 1), .eq (.bool false), .eq (.bool false)] 162 (by kernel_rfl) (by exact fun _ _ _ _ _ h => h) (by kernel_rfl) (by rfl) ?hop ?htail
  case hop =>
    intro A hA
    have hN : A.tmps.size = 162 := by rw [hA]; rfl
    have q1 : A.tmps.getD 1 undef = .pointer (some ⟨g2_, 0, none⟩) := by rw [hA]; rfl
    have q2 : A.tmps.getD 2 undef = .int .i64 0 := by rw [hA]; rfl
    have q4 : A.tmps.getD 4 undef = .int .i64 4 := by rw [hA]; rfl
    have q5 : A.tmps.getD 5 undef = .pointer (some ⟨g5_, 0, none⟩) := by rw [hA]; rfl
    have q6 : A.tmps.getD 6 undef = .int .i64 0 := by rw [hA]; rfl
    have q7 : A.tmps.getD 7 undef = .pointer (some ⟨g7_, 0, none⟩) := by rw [hA]; rfl
    have q10 : A.tmps.getD 10 undef = .int .i64 1 := by rw [hA]; rfl
    have q11 : A.tmps.getD 11 undef = .pointer (some ⟨g10_, 0, none⟩) := by rw [hA]; rfl
    have q12 : A.tmps.getD 12 undef = .int .i64 0 := by rw [hA]; rfl
    have q14 : A.tmps.getD 14 undef = .int .i64 1 := by rw [hA]; rfl
    clear hA
    refine ⟨?_, ?_, ?_, ?_, ?_, ?_, ?_, ?_, ?_, ?_, ?_, ?_, ?_, ?_, ?_, ?_, ?_, ?_, ?_, ?_, ?_, ?_, ?_, ?_, ?_, ?_, ?_, ?_, ?_, ?_, ?_, ?_, ?_, ?_, ?_, ?_, ?_, ?_, ?_, ?_, ?_, ?_, ?_, ?_, ?_, ?_, ?_, ?_, ?_, ?_, trivial⟩
    · refine kok hN fun u W ev ec ef E B hG hf => ?_
      exact k_val _ rfl rfl hG (by simp [go_sem, B 1 rfl rfl q1, (X1.later hG).cel]) rfl
    · refine kok hN fun u W ev ec ef E B hG hf => ?_
      exact k_cl rfl rfl (by simp [go_sem, ec, ef]) (sk17 W) hG (fun _ _ => rfl)
    · refine kok hN fun u W ev ec ef E B hG hf => ?_
      exact k_val _ rfl rfl hG (by simp [go_sem, E 57 0 rfl rfl (hf 0 rfl), E 58 1 rfl rfl (hf 1 rfl)]) rfl
    · refine kok hN fun u W ev ec ef E B hG hf => ?_
      exact k_val _ rfl rfl hG (by simp [go_sem, E 59 2 rfl rfl (hf 2 rfl)]) rfl
    · refine kok hN fun u W ev ec ef E B hG hf => ?_
      exact k_val _ ⟨_, hf 3 rfl, rfl⟩ rfl hG (by simp [go_sem, B 2 rfl rfl q2]) rfl
    · refine kok hN fun u W ev ec ef E B hG hf => ?_
      exact k_val _ ⟨_, hf 3 rfl, rfl⟩ rfl hG (by simp [go_sem, ec, E 61 4 rfl rfl (hf 4 rfl)]) rfl
    · refine kok hN fun u W ev ec ef E B hG hf => ?_
      exact k_val _ rfl rfl hG (by simp [go_sem, E 60 3 rfl rfl (hf 3 rfl), E 62 5 rfl rfl (hf 5 rfl)]) rfl
    · refine kok hN fun u W ev ec ef E B hG hf => ?_
      exact k_val _ rfl rfl hG (by simp [go_sem, E 63 6 rfl rfl (hf 6 rfl)]) rfl
    · refine kok hN fun u W ev ec ef E B hG hf => ?_
      exact k_val _ ⟨_, hf 7 rfl, rfl⟩ rfl hG (by simp [go_sem, B 4 rfl rfl q4]) rfl
    · refine kok hN fun u W ev ec ef E B hG hf => ?_
      exact k_val _ ⟨_, hf 7 rfl, rfl⟩ rfl hG (by simp [go_sem, ec, E 65 8 rfl rfl (hf 8 rfl)]) rfl
    · refine kok hN fun u W ev ec ef E B hG hf => ?_
      exact k_val _ rfl rfl hG (by simp [go_sem, E 64 7 rfl rfl (hf 7 rfl), E 66 9 rfl rfl (hf 9 rfl)]) rfl
    · refine kok hN fun u W ev ec ef E B hG hf => ?_
      exact k_val _ rfl rfl hG (by simp [go_sem, E 67 10 rfl rfl (hf 10 rfl)]) rfl
    · refine kok hN fun u W ev ec ef E B hG hf => ?_
      exact k_val _ ⟨_, hf 11 rfl, rfl⟩ rfl hG (by simp [go_sem, B 5 rfl rfl q5]) rfl
    · refine kok hN fun u W ev ec ef E B hG hf => ?_
      exact k_val _ ⟨_, hf 11 rfl, rfl⟩ rfl hG (by simp [go_sem, E 69 12 rfl rfl (hf 12 rfl), (X3.later hG).cel]) rfl
    · refine kok hN fun u W ev ec ef E B hG hf => ?_
      exact k_cl ⟨_, hf 11 rfl, rfl⟩ rfl (by simp [go_sem, ec, ef]) (sk18 W) hG (fun _ _ => rfl)
    · refine kok hN fun u W ev ec ef E B hG hf => ?_
      exact k_val _ ⟨_, hf 11 rfl, rfl⟩ rfl hG (by simp [go_sem, E 70 13 rfl rfl (hf 13 rfl), E 71 14 rfl rfl (hf 14 rfl)]) rfl
    · refine kok hN fun u W ev ec ef E B hG hf => ?_
      exact k_val _ rfl rfl hG (by simp [go_sem, E 68 11 rfl rfl (hf 11 rfl), E 72 15 rfl rfl (hf 15 rfl)]) rfl
    · refine kok hN fun u W ev ec ef E B hG hf => ?_
      exact k_val _ rfl rfl hG (by simp [go_sem, E 73 16 rfl rfl (hf 16 rfl)]) rfl
    · refine kok hN fun u W ev ec ef E B hG hf => ?_
      exact k_val _ ⟨_, hf 17 rfl, rfl⟩ rfl hG (by simp [go_sem, B 5 rfl rfl q5]) rfl
    · refine kok hN fun u W ev ec ef E B hG hf => ?_
      exact k_val _ ⟨_, hf 17 rfl, rfl⟩ rfl hG (by simp [go_sem, E 75 18 rfl rfl (hf 18 rfl), (X3.later hG).cel]) rfl
    · refine kok hN fun u W ev ec ef E B hG hf => ?_
      exact k_cl ⟨_, hf 17 rfl, rfl⟩ rfl (by simp [go_sem, ec, ef]) (sk19 W) hG (fun _ _ => rfl)
    · refine kok hN fun u W ev ec ef E B hG hf => ?_
      exact k_val _ ⟨_, hf 17 rfl, rfl⟩ rfl hG (by simp [go_sem, E 76 19 rfl rfl (hf 19 rfl), E 77 20 rfl rfl (hf 20 rfl)]) rfl
    · refine kok hN fun u W ev ec ef E B hG hf => ?_
      exact k_val _ rfl rfl hG (by simp [go_sem, E 74 17 rfl rfl (hf 17 rfl), E 78 21 rfl rfl (hf 21 rfl)]) rfl
    · refine kok hN fun u W ev ec ef E B hG hf => ?_
      exact k_val _ rfl rfl hG (by simp [go_sem, E 79 22 rfl rfl (hf 22 rfl)]) rfl
    · refine kok hN fun u W ev ec ef E B hG hf => ?_
      exact k_val _ ⟨_, hf 23 rfl, rfl⟩ rfl hG (by simp [go_sem, B 6 rfl rfl q6]) rfl
    · refine kok hN fun u W ev ec ef E B hG hf => ?_
      exact k_val _ ⟨_, hf 23 rfl, rfl⟩ rfl hG (by simp [go_sem, ec, E 81 24 rfl rfl (hf 24 rfl)]) rfl
    · refine kok hN fun u W ev ec ef E B hG hf => ?_
      exact k_val _ rfl rfl hG (by simp [go_sem, E 80 23 rfl rfl (hf 23 rfl), E 82 25 rfl rfl (hf 25 rfl)]) rfl
    · refine kok hN fun u W ev ec ef E B hG hf => ?_
      exact k_val _ rfl rfl hG (by simp [go_sem, E 83 26 rfl rfl (hf 26 rfl)]) rfl
    · refine kok hN fun u W ev ec ef E B hG hf => ?_
      exact k_val _ ⟨_, hf 27 rfl, rfl⟩ rfl hG (by simp [go_sem, B 7 rfl rfl q7]) rfl
    · refine kok hN fun u W ev ec ef E B hG hf => ?_
      exact k_val _ ⟨_, hf 27 rfl, rfl⟩ rfl hG (by simp [go_sem, E 85 28 rfl rfl (hf 28 rfl), (X4.later hG).cel]) rfl
    · refine kok hN fun u W ev ec ef E B hG hf => ?_
      exact k_cl ⟨_, hf 27 rfl, rfl⟩ rfl (by simp [go_sem, ec, ef]) (sk20 W) hG (fun _ _ => rfl)
    · refine kok hN fun u W ev ec ef E B hG hf => ?_
      exact k_val _ ⟨_, hf 27 rfl, rfl⟩ rfl hG (by simp [go_sem, E 86 29 rfl rfl (hf 29 rfl), E 87 30 rfl rfl (hf 30 rfl)]) rfl
    · refine kok hN fun u W ev ec ef E B hG hf => ?_
      exact k_val _ rfl rfl hG (by simp [go_sem, E 84 27 rfl rfl (hf 27 rfl), E 88 31 rfl rfl (hf 31 rfl)]) rfl
    · refine kok hN fun u W ev ec ef E B hG hf => ?_
      exact k_val _ rfl rfl hG (by simp [go_sem, E 89 32 rfl rfl (hf 32 rfl)]) rfl
    · refine kok hN fun u W ev ec ef E B hG hf => ?_
      exact k_val _ ⟨_, hf 33 rfl, rfl⟩ rfl hG (by simp [go_sem, B 10 rfl rfl q10]) rfl
    · refine kok hN fun u W ev ec ef E B hG hf => ?_
      exact k_val _ ⟨_, hf 33 rfl, rfl⟩ rfl hG (by simp [go_sem, ec, E 91 34 rfl rfl (hf 34 rfl)]) rfl
    · refine kok hN fun u W ev ec ef E B hG hf => ?_
      exact k_val _ rfl rfl hG (by simp [go_sem, E 90 33 rfl rfl (hf 33 rfl), E 92 35 rfl rfl (hf 35 rfl)]) rfl
    · refine kok hN fun u W ev ec ef E B hG hf => ?_
      exact k_val _ rfl rfl hG (by simp [go_sem, E 93 36 rfl rfl (hf 36 rfl)]) rfl
    · refine kok hN fun u W ev ec ef E B hG hf => ?_
      exact k_val _ ⟨_, hf 37 rfl, rfl⟩ rfl hG (by simp [go_sem, B 11 rfl rfl q11, (X6.later hG).cel]) rfl
    · refine kok hN fun u W ev ec ef E B hG hf => ?_
      exact k_cl ⟨_, hf 37 rfl, rfl⟩ rfl (by simp [go_sem, ec, ef]) (sk1 W) hG (fun _ _ => rfl)
    · refine kok hN fun u W ev ec ef E B hG hf => ?_
      exact k_val _ ⟨_, hf 37 rfl, rfl⟩ rfl hG (by simp [go_sem, E 95 38 rfl rfl (hf 38 rfl), E 96 39 rfl rfl (hf 39 rfl)]) rfl
    · refine kok hN fun u W ev ec ef E B hG hf => ?_
      exact k_val _ rfl rfl hG (by simp [go_sem, E 94 37 rfl rfl (hf 37 rfl), E 97 40 rfl rfl (hf 40 rfl)]) rfl
    · refine kok hN fun u W ev ec ef E B hG hf => ?_
      exact k_val _ rfl rfl hG (by simp [go_sem, E 98 41 rfl rfl (hf 41 rfl)]) rfl
    · refine kok hN fun u W ev ec ef E B hG hf => ?_
      exact k_val _ ⟨_, hf 42 rfl, rfl⟩ rfl hG (by simp [go_sem, B 12 rfl rfl q12]) rfl
    · refine kok hN fun u W ev ec ef E B hG hf => ?_
      exact k_val _ ⟨_, hf 42 rfl, rfl⟩ rfl hG (by simp [go_sem, ec, E 100 43 rfl rfl (hf 43 rfl)]) rfl
    · refine kok hN fun u W ev ec ef E B hG hf => ?_
      exact k_val _ rfl rfl hG (by simp [go_sem, E 99 42 rfl rfl (hf 42 rfl), E 101 44 rfl rfl (hf 44 rfl)]) rfl
    · refine kok hN fun u W ev ec ef E B hG hf => ?_
      exact k_val _ rfl rfl hG (by simp [go_sem, E 102 45 rfl rfl (hf 45 rfl)]) rfl
    · refine kok hN fun u W ev ec ef E B hG hf => ?_
      exact k_val _ ⟨_, hf 46 rfl, rfl⟩ rfl hG (by simp [go_sem, B 14 rfl rfl q14]) rfl
    · refine kok hN fun u W ev ec ef E B hG hf => ?_
      exact k_val _ ⟨_, hf 46 rfl, rfl⟩ rfl hG (by simp [go_sem, ec, E 104 47 rfl rfl (hf 47 rfl)]) rfl
    · refine kok hN fun u W ev ec ef E B hG hf => ?_
      exact k_val _ rfl rfl hG (by simp [go_sem, E 103 46 rfl rfl (hf 46 rfl), E 105 48 rfl rfl (hf 48 rfl)]) rfl
  case htail =>
    intro u w23 hG hP hD
    have f106 : u 49 = .bool false := hP 49 (by decide)
    simp only [putAll, Act.put, List.setIfInBounds_toArray, List.set_cons_zero, List.set_cons_succ, List.length_cons, List.length_nil, Nat.reduceAdd, List.drop_succ_cons, List.drop_zero, f106]
    replace X1 := X1.later hG
    replace X3 := X3.later hG
    replace X4 := X4.later hG
    replace X6 := X6.later hG
    replace hB := nxt hB hG
    clear hP hD hG f106
    clear X1 X3 X4 X6
    go_wp2_with fail
    refine (sk7 _).mono ?_
    rintro e w24 ⟨rfl, hb⟩
    replace hB := nxt hB hb
    clear hb
    go_wp2_with fail
    refine (sk6 _).mono ?_
    rintro e w25 ⟨rfl, hb⟩
    replace hB := nxt hB hb
    clear hb
    go_wp2_with fail
    refine (sk21 _).mono ?_
    rintro e w26 ⟨rfl, hb⟩
    replace hB := nxt hB hb
    clear hb
    have X8 := Bx.new w26 25 #[.bool false, .string ⟨#[3]⟩, .int .i64 0, .bool false, .string ⟨#[1]⟩, .int .i64 0, .bool false, .string ⟨#[1]⟩, .int .i64 1]
    replace hB := nxtA hB (.cells #[.bool false, .string ⟨#[3]⟩, .int .i64 0, .bool false, .string ⟨#[1]⟩, .int .i64 0, .bool false, .string ⟨#[1]⟩, .int .i64 1] 25)
    go_wp2_with fail
    refine (sk22 _ (tab_keep HT.out hB) X8).mono ?_
    rintro e w27 ⟨rfl, hb⟩
    replace X8 := X8.later hb
    replace hB := nxt hB hb
    clear hb
    generalize w26.heap.size = g13_ at *
    go_wp2_with fail
    refine (sk23 _).mono ?_
    rintro e w28 ⟨rfl, hb⟩
    replace hB := nxt hB hb
    clear hb
    go_wp2_with fail
    refine (sk24 _).mono ?_
    rintro e w29 ⟨rfl, hb⟩
    replace hB := nxt hB hb
    clear hb
    go_wp2_with fail
    refine (sk25 _ (tab_keep HT.out hB)).mono ?_
    rintro e w30 ⟨rfl, hb⟩
    replace hB := nxt hB hb
    clear hb
    go_wp2_with fail
    refine (sk23 _).mono ?_
    rintro e w31 ⟨rfl, hb⟩
    replace hB := nxt hB hb
    clear hb
    go_wp2_with fail
    refine (sk24 _).mono ?_
    rintro e w32 ⟨rfl, hb⟩
    replace hB := nxt hB hb
    clear hb
    go_wp2_with fail
    refine (sk21 _).mono ?_
    rintro e w33 ⟨rfl, hb⟩
    replace hB := nxt hB hb
    clear hb
    go_wp2_with fail
    refine (sk26 _ (tab_keep HT.out hB)).mono ?_
    rintro e w34 ⟨rfl, hb⟩
    replace hB := nxt hB hb
    clear hb
    go_wp2_with fail
    refine (sk1 _).mono ?_
    rintro e w35 ⟨rfl, hb⟩
    replace hB := nxt hB hb
    clear hb
    go_wp2_with fail
    refine (sk4 _).mono ?_
    rintro e w36 ⟨rfl, hb⟩
    replace hB := nxt hB hb
    clear hb
    have X9 := Bx.new w36 27 #[.bool false, .string ⟨#[]⟩, .int .i64 0, .bool false, .string ⟨#[1]⟩, .int .i64 0, .bool false, .string ⟨#[3]⟩, .int .i64 0, .bool false, .string ⟨#[1]⟩, .int .i64 2]
    replace hB := nxtA hB (.cells #[.bool false, .string ⟨#[]⟩, .int .i64 0, .bool false, .string ⟨#[1]⟩, .int .i64 0, .bool false, .string ⟨#[3]⟩, .int .i64 0, .bool false, .string ⟨#[1]⟩, .int .i64 2] 27)
    go_wp2_with fail
    refine (sk27 _ (tab_keep HT.out hB) X9).mono ?_
    rintro e w37 ⟨rfl, hb⟩
    replace X9 := X9.later hb
    replace hB := nxt hB hb
    clear hb
    generalize w36.heap.size = g15_ at *
    go_wp2_with fail
    refine (sk28 _).mono ?_
    rintro e w38 ⟨rfl, hb⟩
    replace hB := nxt hB hb
    clear hb
    go_wp2_with fail
    refine (sk1 _).mono ?_
    rintro e w39 ⟨rfl, hb⟩
    replace hB := nxt hB hb
    clear hb
    go_wp2_with fail
    refine (sk4 _).mono ?_
    rintro e w40 ⟨rfl, hb⟩
    replace hB := nxt hB hb
    clear hb
    have X10 := Bx.new w40 27 #[.bool false, .string ⟨#[]⟩, .int .i64 0, .bool false, .string ⟨#[1]⟩, .int .i64 0, .bool false, .string ⟨#[3]⟩, .int .i64 0, .bool false, .string ⟨#[1]⟩, .int .i64 2]
    replace hB := nxtA hB (.cells #[.bool false, .string ⟨#[]⟩, .int .i64 0, .bool false, .string ⟨#[1]⟩, .int .i64 0, .bool false, .string ⟨#[3]⟩, .int .i64 0, .bool false, .string ⟨#[1]⟩, .int .i64 2] 27)
    go_wp2_with fail
    refine (sk29 _ (tab_keep HT.out hB) X10).mono ?_
    rintro e w41 ⟨rfl, hb⟩
    replace X10 := X10.later hb
    replace hB := nxt hB hb
    clear hb
    generalize w40.heap.size = g17_ at *
    go_wp2_with fail
    refine (sk30 _).mono ?_
    rintro e w42 ⟨rfl, hb⟩
    replace hB := nxt hB hb
    clear hb
    go_wp2_with fail
    refine (sk31 _).mono ?_
    rintro e w43 ⟨rfl, hb⟩
    replace hB := nxt hB hb
    clear hb
    go_wp2_with fail
    refine (sk4 _).mono ?_
    rintro e w44 ⟨rfl, hb⟩
    replace hB := nxt hB hb
    clear hb
    go_wp2_with fail
    refine (sk32 _ (tab_keep HT.out hB)).mono ?_
    rintro e w45 ⟨rfl, hb⟩
    replace hB := nxt hB hb
    clear hb
    go_wp2_with fail
    refine (sk33 _).mono ?_
    rintro e w46 ⟨rfl, hb⟩
    replace hB := nxt hB hb
    clear hb
    go_wp2_with fail
    refine (sk1 _).mono ?_
    rintro e w47 ⟨rfl, hb⟩
    replace hB := nxt hB hb
    clear hb
    go_wp2_with fail
    refine (sk34 _ (tab_keep HT.out hB)).mono ?_
    rintro e w48 ⟨rfl, hb⟩
    replace hB := nxt hB hb
    clear hb
    go_wp2_with fail
    refine (sk35 _).mono ?_
    rintro e w49 ⟨rfl, hb⟩
    replace hB := nxt hB hb
    clear hb
    go_wp2_with fail
    refine (sk36 _).mono ?_
    rintro e w50 ⟨rfl, hb⟩
    replace hB := nxt hB hb
    clear hb
    go_wp2_with fail
    refine (sk37 _).mono ?_
    rintro e w51 ⟨rfl, hb⟩
    replace hB := nxt hB hb
    clear hb
    go_wp2_with fail
    refine (sk38 _ (tab_keep HT.out hB)).mono ?_
    rintro e w52 ⟨rfl, hb⟩
    replace hB := nxt hB hb
    clear hb
    go_wp2_with fail
    refine (sk1 _).mono ?_
    rintro e w53 ⟨rfl, hb⟩
    replace hB := nxt hB hb
    clear hb
    go_wp2
    go_ret
    exact ⟨rfl, hB⟩

end Go.Proofs.YtchfglbkiebfpaaGreatDoor

