/- The walks and plain laws beneath the statements. -/
import Derived.Test.YtchfglbkiebfpaaGreatDoorPX28
import Derived.Test.YtchfglbkiebfpaaGreatDoorPX29
import Derived.Test.YtchfglbkiebfpaaGreatDoorPX7
import Derived.Test.YtchfglbkiebfpaaGreatDoorPX24
namespace Go.Proofs.YtchfglbkiebfpaaGreatDoor
open Go.RowKit

theorem far1_no {w : World} {g : Nat} {b c : Bool} {s t : ByteArray} {e f : Int} (h : (okN s e ∧ okN t f)) (hx : Bx w g 27 #[.bool b, .string s, .int .i64 e, .bool c, .string t, .int .i64 f]) :
    Calls Tryz.prog 14 #[.slice (some ⟨g, 0, none⟩) 1 1] w fun r w' => r = .returned (.bool false) ∧ Below w.heap.size w w' := by
  exact far_no _ 1 1 _ _ _ _ _ _ w (by decide) (fun _ _ => h) (rdS1B hx)
theorem far2_no {w : World} {g : Nat} {b c b' c' : Bool} {s t s' t' : ByteArray} {e f e' f' : Int} (h : ((okN s e ∧ okN t f) ∧ (okN s' e' ∧ okN t' f'))) (hx : Bx w g 27 #[.bool b, .string s, .int .i64 e, .bool c, .string t, .int .i64 f, .bool b', .string s', .int .i64 e', .bool c', .string t', .int .i64 f']) :
    Calls Tryz.prog 14 #[.slice (some ⟨g, 0, none⟩) 2 2] w fun r w' => r = .returned (.bool false) ∧ Below w.heap.size w w' := by
  exact far_no _ 2 2 _ _ _ _ _ _ w (by decide) (fun j _ => if h0 : j = 0 then (by simp only [h0, if_true]; exact h.1) else (by simp only [h0, if_false]; exact h.2)) (rdS2B hx)

theorem far1_yes {w : World} {g : Nat} {b c : Bool} {s t : ByteArray} {e f : Int} (h : ¬ (okN s e ∧ okN t f)) (hx : Bx w g 27 #[.bool b, .string s, .int .i64 e, .bool c, .string t, .int .i64 f]) :
    Calls Tryz.prog 14 #[.slice (some ⟨g, 0, none⟩) 1 1] w fun r w' => r = .returned (.bool true) ∧ Below w.heap.size w w' := by
  exact far_yes _ 1 1 _ _ _ _ _ _ w (by decide) 0 (by decide) h (rdS1B hx)
theorem far2_yes {w : World} {g : Nat} {b c b' c' : Bool} {s t s' t' : ByteArray} {e f e' f' : Int} (h : ¬ ((okN s e ∧ okN t f) ∧ (okN s' e' ∧ okN t' f'))) (hx : Bx w g 27 #[.bool b, .string s, .int .i64 e, .bool c, .string t, .int .i64 f, .bool b', .string s', .int .i64 e', .bool c', .string t', .int .i64 f']) :
    Calls Tryz.prog 14 #[.slice (some ⟨g, 0, none⟩) 2 2] w fun r w' => r = .returned (.bool true) ∧ Below w.heap.size w w' := by
  by_cases h0 : okN s e ∧ okN t f
  · exact far_yes _ 2 2 _ _ _ _ _ _ w (by decide) 1 (by decide) (fun h2 => h ⟨h0, h2⟩) (rdS2B hx)
  · exact far_yes _ 2 2 _ _ _ _ _ _ w (by decide) 0 (by decide) h0 (rdS2B hx)

theorem nd_ok {b : Bool} {s : ByteArray} {e : Int} (h : okN s e) : ND b s e (dy (ival b (sval s)) e) := ⟨rfl, Nat.le_trans h.1 (by decide), by have := h.2.1; omega, by have := h.2.2; omega⟩
theorem ival_lt {b : Bool} {s : ByteArray} {k : Nat} (h : s.size ≤ k) : (ival b (sval s)).natAbs < 2 ^ (8 * k) := by
  rw [ival_natAbs, Nat.pow_mul]
  exact Nat.lt_of_lt_of_le (sval_lt s) (Nat.pow_le_pow_right (by decide) h)
theorem db_ok {b : Bool} {s : ByteArray} {e : Int} (h : okN s e) : DB 300 620 (dy (ival b (sval s)) e) := db_raw (S := 8 * 40) (ival_lt (k := 40) h.1) (by have := h.2.1; omega) (by have := h.2.2; omega)
theorem RdS.below {w w' : World} {A : Option Addr} {n : Nat} {bs cs : Nat → Bool} {ss ts : Nat → ByteArray} {es fs : Nat → Int} (h : RdS w A n bs ss es cs ts fs) (hb : Below w.heap.size w w') : RdS w' A n bs ss es cs ts fs := fun h0 => by
  obtain ⟨b, off, rfl, hc⟩ := h h0
  exact ⟨b, off, rfl, fun j hj => by
    obtain ⟨c1, c2, c3, c4, c5, c6⟩ := hc j hj
    exact ⟨cell_later hb c1, cell_later hb c2, cell_later hb c3, cell_later hb c4, cell_later hb c5, cell_later hb c6⟩⟩
end Go.Proofs.YtchfglbkiebfpaaGreatDoor

namespace Go.Proofs.YtchfglbkiebfpaaGreatDoor
open Go Go.RowKit

theorem bytes_eq {s t : ByteArray} : (s.toList == t.toList) = decide (s = t) := by
  rw [ByteArray.toList_eq, ByteArray.toList_eq]
  obtain ⟨⟨x⟩⟩ := s
  obtain ⟨⟨y⟩⟩ := t
  by_cases h : x = y
  · subst h; simp
  · simp [h]
theorem dy_same {x y : Dyadic} : ((neg (dm x) == neg (dm y) && (mag (dm x)).toList == (mag (dm y)).toList) && de x == de y) = decide (x = y) := by
  by_cases h : x = y
  · subst h; simp
  · rw [decide_eq_false h, Bool.and_eq_false_iff]
    by_cases h3 : de x = de y
    · left
      rw [bytes_eq]
      by_cases h1 : neg (dm x) = neg (dm y)
      · by_cases h2 : mag (dm x) = mag (dm y)
        · refine absurd ?_ h
          have e1 := ival_mk (dm x)
          have e2 := ival_mk (dm y)
          rw [h1, h2, e2] at e1
          rw [← dy_dm x, ← dy_dm y, ← e1, h3]
        · simp [h2]
      · simp [h1]
    · right; simpa using h3
theorem num_eq (W : World) (p q : Operand) (x y : Dyadic) : RunOk Tryz.prog W (do eqGuard .eql 25 p q (vN x) (vN y); binOp .eql 25 (vN x) (vN y)) (.bool (decide (x = y))) := by
  rw [← dy_same]; exact num_eql W p q _ _ _ _ _ _
theorem num_ne (W : World) (p q : Operand) (x y : Dyadic) : RunOk Tryz.prog W (do eqGuard .neq 25 p q (vN x) (vN y); binOp .neq 25 (vN x) (vN y)) (.bool (!decide (x = y))) := by
  rw [← dy_same]; exact num_neq W p q _ _ _ _ _ _
theorem deq_y {x y : Dyadic} (h : x = y) : decide (x = y) = true := decide_eq_true h
theorem dne_n {x y : Dyadic} (h : x = y) : (!decide (x = y)) = false := by rw [decide_eq_true h]; rfl
theorem dsgn_wrap (x y : Dyadic) : IntKind.i64.wrap (dsgn x * dsgn y) = dsgn x * dsgn y := by
  have h : ∀ z : Dyadic, dsgn z = -1 ∨ dsgn z = 0 ∨ dsgn z = 1 := fun z => by
    rcases Int.lt_trichotomy (dsgn z) 0 with h | h | h
    · left; unfold dsgn sgn at *; split at h <;> (try split at h) <;> simp_all
    · exact .inr (.inl h)
    · right; right; unfold dsgn sgn at *; split at h <;> (try split at h) <;> simp_all
  rcases h x with h1 | h1 | h1 <;> rcases h y with h2 | h2 | h2 <;> rw [h1, h2] <;> decide
theorem neg_wrap {p : Int} (h1 : ¬ p < -300) (h2 : ¬ p > 300) : IntKind.i64.wrap (0 - p) = -p := by
  rw [Int.zero_sub]; exact IntWalk.i64_in _ (by omega)
section
variable {b c b' c' d : Bool} {s t s' t' u : ByteArray} {e f e' f' h : Int} {x y x' y' a : Dyadic} {L T : Nat} {W : World} {g : Nat}
theorem dSign_c (n : ND b s e x) (W : World) : Calls Tryz.prog 50 #[rN b s e] W fun r w' => r = .returned (.int .i64 (dsgn x)) ∧ Below W.heap.size W w' := by
  rw [← n.val]; exact dSign_any s b e W
theorem dShift_c (k : Int) (d : DB L T x) (hLT : L + T ≤ 4000000) (h1 : -1000000000 ≤ k) (h2 : k ≤ 1000000000) (W : World) (hT : Tab0 W) : Calls Tryz.prog 49 #[vN x, .int .i64 k] W fun r w' => r = .returned (vN (dy (dm x) (de x + k))) ∧ Below W.heap.size W w' := by
  have n := nd_db d hLT
  have h3 := dShift_any (mag (dm x)) (neg (dm x)) (de x) k W (Nat.le_trans n.size (by decide)) (by have := n.lo; omega) (by have := n.hi; omega) hT
  rw [ival_mk] at h3
  exact h3
theorem sAdd2 (n1 : ND b s e x) (n2 : ND c t f y) (m1 : ND b' s' e' x') (m2 : ND c' t' f' y') (d1 : DB L T x) (d2 : DB L T y) (k1 : DB L T x') (k2 : DB L T y') (hLT : L + T ≤ 2999998) (hT : Tab0 W) (hx : Bx W g 27 #[.bool b, .string s, .int .i64 e, .bool c, .string t, .int .i64 f, .bool b', .string s', .int .i64 e', .bool c', .string t', .int .i64 f']) :
    Calls Tryz.prog 16 #[.slice (some ⟨g, 0, none⟩) 2 2] W fun r w' => r = .returned (vS (dmin x y + dmin x' y') (dmax x y + dmax x' y')) ∧ Below W.heap.size W w' := by
  have h3 := sAdd_any _ 2 2 _ _ _ _ _ _ (fun j => if j = 0 then x else x') (fun j => if j = 0 then y else y') L T W (by decide) (fun j => by by_cases h0 : j = 0 <;> simp only [h0, if_true, if_false] <;> assumption) (fun j => by by_cases h0 : j = 0 <;> simp only [h0, if_true, if_false] <;> assumption) (fun j => by by_cases h0 : j = 0 <;> simp only [h0, if_true, if_false] <;> assumption) (fun j => by by_cases h0 : j = 0 <;> simp only [h0, if_true, if_false] <;> assumption) (by omega) (rdS2B hx) hT
  have e1 : sumD (fun j => dmin (if j = 0 then x else x') (if j = 0 then y else y')) 2 = dmin x y + dmin x' y' := by
    show (0 + dmin x y) + dmin x' y' = _
    grind
  have e2 : sumD (fun j => dmax (if j = 0 then x else x') (if j = 0 then y else y')) 2 = dmax x y + dmax x' y' := by
    show (0 + dmax x y) + dmax x' y' = _
    grind
  rw [e1, e2] at h3
  exact h3
theorem sHull2 (n1 : ND b s e x) (n2 : ND c t f y) (m1 : ND b' s' e' x') (m2 : ND c' t' f' y') (hT : Tab0 W) (hx : Bx W g 27 #[.bool b, .string s, .int .i64 e, .bool c, .string t, .int .i64 f, .bool b', .string s', .int .i64 e', .bool c', .string t', .int .i64 f']) :
    Calls Tryz.prog 34 #[.slice (some ⟨g, 0, none⟩) 2 2] W fun r w' => r = .returned (vS (dmin4 x y x' y') (dmax4 x y x' y')) ∧ Below W.heap.size W w' := by
  have h3 := sHull_any _ 2 2 _ _ _ _ _ _ (fun j => if j = 0 then x else x') (fun j => if j = 0 then y else y') W (by decide) (fun j => by by_cases h0 : j = 0 <;> simp only [h0, if_true, if_false] <;> assumption) (fun j => by by_cases h0 : j = 0 <;> simp only [h0, if_true, if_false] <;> assumption) (rdS2B hx) hT
  have e1 : firstD minB (alt (fun j => if j = 0 then x else x') (fun j => if j = 0 then y else y')) (2 * 2) = dmin4 x y x' y' := by
    rw [show 2 * 2 = 4 from rfl, first_min _ (k := 3) (by decide), first_min _ (k := 2) (by decide), first_min _ (k := 1) (by decide)]; rfl
  have e2 : firstD maxB (alt (fun j => if j = 0 then x else x') (fun j => if j = 0 then y else y')) (2 * 2) = dmax4 x y x' y' := by
    rw [show 2 * 2 = 4 from rfl, first_max _ (k := 3) (by decide), first_max _ (k := 2) (by decide), first_max _ (k := 1) (by decide)]; rfl
  rw [e1, e2] at h3
  exact h3
theorem sHas_t (ha : hasB x y a = true) (n1 : ND b s e x) (n2 : ND c t f y) (n3 : ND d u h a) (d1 : DB L T x) (d2 : DB L T y) (hLT : L + T ≤ 4000000) (W : World) (hT : Tab0 W) : Calls Tryz.prog 37 #[rS b s e c t f, rN d u h] W fun r w' => r = .returned (.bool true) ∧ Below W.heap.size W w' := by
  rw [← ha]; exact sHas_any W n1 n2 n3 d1 d2 hLT hT
theorem sWithin_t (h1 : hasB x' y' x = true) (h2 : hasB x' y' y = true) (n1 : ND b s e x) (n2 : ND c t f y) (m1 : ND b' s' e' x') (m2 : ND c' t' f' y') (d1 : DB L T x') (d2 : DB L T y') (hLT : L + T ≤ 4000000) (W : World) (hT : Tab0 W) : Calls Tryz.prog 33 #[rS b s e c t f, rS b' s' e' c' t' f'] W fun r w' => r = .returned (.bool true) ∧ Below W.heap.size W w' := by
  have h3 := sWithin_any W n1 n2 m1 m2 d1 d2 hLT hT
  rw [h1, h2] at h3
  exact h3
end
end Go.Proofs.YtchfglbkiebfpaaGreatDoor

namespace Go.Proofs.YtchfglbkiebfpaaGreatDoor
open Go Go.RowKit


set_option maxRecDepth 100000 in
theorem place_c {b c : Bool} {s t : ByteArray} {e f : Int} {x y : Dyadic} {q : Nat} (hq : q < 256) (n1 : ND b s e x) (n2 : ND c t f y) (d1 : DB 300 620 x) (d2 : DB 300 620 y) (w : World) (hT : Tab0 w) : RetAt Tryz.prog w 36 #[rS b s e c t f, .int .u8 (q : Int)] (vN (placeD x y q)) := by
  have d1_ : DB 300 620 (dmin x y) := db_dmin d1 d2
  have d2_ : DB 300 620 (dmax x y) := db_dmax d1 d2
  have d3_ : DB 300 621 ((dmax x y) - (dmin x y)) := db_sub d2_ d1_
  have d4_ : DB 0 8 (dy (q : Int) 0) := db_raw (S := 8) (by omega) (by decide) (by decide)
  have d5_ : DB 300 629 (((dmax x y) - (dmin x y)) * (dy (q : Int) 0)) := db_mul d3_ d4_
  have d6_ : DB 308 629 (dy (dm (((dmax x y) - (dmin x y)) * (dy (q : Int) 0))) (de (((dmax x y) - (dmin x y)) * (dy (q : Int) 0)) + (-8))) := db_shift d5_ ((-8)) (by decide) (by decide)
  have d7_ : DB 308 630 ((dmin x y) + (dy (dm (((dmax x y) - (dmin x y)) * (dy (q : Int) 0))) (de (((dmax x y) - (dmin x y)) * (dy (q : Int) 0)) + (-8)))) := db_add (db_up d1_ (by decide : 300 ≤ 308) (by decide : 620 ≤ 629)) d6_
  exact 
  ret_sk ttOk mixed (fun a w => Tryz.call36 a w) Tryz.func36 Tryz.ntmps36 Tryz.results36 _ rfl _ [.reg 14 [], .o 1 5 (.ret (.val (vN (dmin x y)))), .o 1 11 (.ret (.val (vN (dmax x y)))), .reg 12 [], .o 2 3 (.ret (.val (vN ((dmax x y) - (dmin x y))))), .o 2 5 (.eq (.val (.int .i64 (q : Int)))), .o 2 6 (.ret (.val (vN (dy (q : Int) 0)))), .o 2 8 (.ret (.val (vN (((dmax x y) - (dmin x y)) * (dy (q : Int) 0))))), .o 2 9 (.ret (.val (vN (dy (dm (((dmax x y) - (dmin x y)) * (dy (q : Int) 0))) (de (((dmax x y) - (dmin x y)) * (dy (q : Int) 0)) + (-8)))))), .o 2 11 (.ret (.val (vN ((dmin x y) + (dy (dm (((dmax x y) - (dmin x y)) * (dy (q : Int) 0))) (de (((dmax x y) - (dmin x y)) * (dy (q : Int) 0)) + (-8)))))))] (fun W hW hR => (fun (hT : Tab0 W) => ai (rg1 hT Tryz.call91 fun W g h hx => dMin2N n1 n2 h hx) <| ai (rg1 hT Tryz.call92 fun W g h hx => dMax2N n1 n2 h hx) <| ai (rt hT Tryz.call48 fun W h => dSub_any W (nd_db d2_ (by decide)) (nd_db d1_ (by decide)) d2_ d1_ (by decide) h) <| ai (IntWalk.i64_in (q : Int) (by omega)) <| ai (rt hT Tryz.call52 fun W h => dOf_any (q : Int) W (by omega) (by omega) h) <| ai (rg1 hT Tryz.call39 fun W g h hx => dMul2N (nd_db d3_ (by decide)) (nd_db d4_ (by decide)) d3_ (db_up d4_ (by decide : 0 ≤ 300) (by decide : 8 ≤ 621)) (by decide) h hx) <| ai (rt hT Tryz.call49 fun W h => dShift_c (-8) d5_ (by decide) (by omega) (by omega) W h) <| ai (rg1 hT Tryz.call38 fun W g h hx => dAdd2N (nd_db d1_ (by decide)) (nd_db d6_ (by decide)) (db_up d1_ (by decide : 300 ≤ 308) (by decide : 620 ≤ 629)) d6_ (by decide) h hx) <| hR) (tab_keep hT hW)) fun W => by kernel_rfl

theorem place_db {x y : Dyadic} {q : Nat} (hq : q < 256) (d1 : DB 300 620 x) (d2 : DB 300 620 y) : DB 308 630 (placeD x y q) := by
  have d1_ : DB 300 620 (dmin x y) := db_dmin d1 d2
  have d2_ : DB 300 620 (dmax x y) := db_dmax d1 d2
  have d3_ : DB 300 621 ((dmax x y) - (dmin x y)) := db_sub d2_ d1_
  have d4_ : DB 0 8 (dy (q : Int) 0) := db_raw (S := 8) (by omega) (by decide) (by decide)
  have d5_ : DB 300 629 (((dmax x y) - (dmin x y)) * (dy (q : Int) 0)) := db_mul d3_ d4_
  have d6_ : DB 308 629 (dy (dm (((dmax x y) - (dmin x y)) * (dy (q : Int) 0))) (de (((dmax x y) - (dmin x y)) * (dy (q : Int) 0)) + (-8))) := db_shift d5_ ((-8)) (by decide) (by decide)
  have d7_ : DB 308 630 ((dmin x y) + (dy (dm (((dmax x y) - (dmin x y)) * (dy (q : Int) 0))) (de (((dmax x y) - (dmin x y)) * (dy (q : Int) 0)) + (-8)))) := db_add (db_up d1_ (by decide : 300 ≤ 308) (by decide : 620 ≤ 629)) d6_
  exact d7_
end Go.Proofs.YtchfglbkiebfpaaGreatDoor

