/- The walks and plain laws beneath the statements. -/
import Derived.Test.YtchfglbkiebfpaaGreatDoorPX32
namespace Go.Proofs.YtchfglbkiebfpaaGreatDoor
open Go Go.RowKit

theorem btw_x (x y u v : Dyadic) : btw (dmin4 x y u v) (dmax4 x y u v) x ∧ btw (dmin4 x y u v) (dmax4 x y u v) y := by
  obtain ⟨h1, h2, _⟩ := four_le x y u v
  obtain ⟨a1, a2, a3, a4, _⟩ := dmin_le x y
  exact ⟨btw_has (has_of (by grind) (by grind)), btw_has (has_of (by grind) (by grind))⟩
theorem in_x (x y u v : Dyadic) : hasB (dmin4 x y u v) (dmax4 x y u v) x = true ∧ hasB (dmin4 x y u v) (dmax4 x y u v) y = true := ⟨has_btw (btw_x x y u v).1, has_btw (btw_x x y u v).2⟩
theorem btw_min {a b x y : Dyadic} (h : btw a b x) (k : btw a b y) : dmin a b ≤ dmin x y ∧ dmin x y ≤ dmax a b ∧ dmin a b ≤ dmax x y ∧ dmax x y ≤ dmax a b := by
  obtain ⟨h1, h2⟩ := h
  obtain ⟨k1, k2⟩ := k
  unfold dmin dmax at *
  refine ⟨?_, ?_, ?_, ?_⟩ <;> grind
theorem within_add (x y u v x' y' : Dyadic) : hasB (dmin (dmin4 x y u v) (dmax4 x y u v) + dmin x' y') (dmax (dmin4 x y u v) (dmax4 x y u v) + dmax x' y') (dmin x y + dmin x' y') = true ∧ hasB (dmin (dmin4 x y u v) (dmax4 x y u v) + dmin x' y') (dmax (dmin4 x y u v) (dmax4 x y u v) + dmax x' y') (dmax x y + dmax x' y') = true := by
  obtain ⟨h1, h2⟩ := btw_x x y u v
  obtain ⟨a1, a2, a3, a4⟩ := btw_min h1 h2
  obtain ⟨_, _, _, _, b⟩ := dmin_le x' y'
  exact ⟨has_of (by grind) (by grind), has_of (by grind) (by grind)⟩
theorem four_mem {lo hi a b c d : Dyadic} (ha : lo ≤ a ∧ a ≤ hi) (hb : lo ≤ b ∧ b ≤ hi) (hc : lo ≤ c ∧ c ≤ hi) (hd : lo ≤ d ∧ d ≤ hi) : (lo ≤ dmin4 a b c d ∧ dmin4 a b c d ≤ hi) ∧ (lo ≤ dmax4 a b c d ∧ dmax4 a b c d ≤ hi) := by
  have two : ∀ {a b : Dyadic}, (lo ≤ a ∧ a ≤ hi) → (lo ≤ b ∧ b ≤ hi) → (lo ≤ dmin a b ∧ dmin a b ≤ hi) ∧ (lo ≤ dmax a b ∧ dmax a b ≤ hi) := fun {a b} h k => by
    unfold dmin dmax
    refine ⟨?_, ?_⟩ <;> split <;> assumption
  exact ⟨(two (two (two ha hb).1 hc).1 hd).1, (two (two (two ha hb).2 hc).2 hd).2⟩
theorem within_mul (x y u v x' y' : Dyadic) : hasB (dmin4 (dmin4 x y u v * x') (dmin4 x y u v * y') (dmax4 x y u v * x') (dmax4 x y u v * y')) (dmax4 (dmin4 x y u v * x') (dmin4 x y u v * y') (dmax4 x y u v * x') (dmax4 x y u v * y')) (dmin4 (x * x') (x * y') (y * x') (y * y')) = true ∧
    hasB (dmin4 (dmin4 x y u v * x') (dmin4 x y u v * y') (dmax4 x y u v * x') (dmax4 x y u v * y')) (dmax4 (dmin4 x y u v * x') (dmin4 x y u v * y') (dmax4 x y u v * x') (dmax4 x y u v * y')) (dmax4 (x * x') (x * y') (y * x') (y * y')) = true := by
  obtain ⟨h1, h2⟩ := btw_x x y u v
  have k1 : btw x' y' x' := (by obtain ⟨a, b, c, d, _⟩ := dmin_le x' y'; exact ⟨a, c⟩)
  have k2 : btw x' y' y' := (by obtain ⟨a, b, c, d, _⟩ := dmin_le x' y'; exact ⟨b, d⟩)
  obtain ⟨m1, m2⟩ := four_mem (btw_prod h1 k1) (btw_prod h1 k2) (btw_prod h2 k1) (btw_prod h2 k2)
  exact ⟨has_of m1.1 m1.2, has_of m2.1 m2.2⟩
theorem within_neg (x y u v : Dyadic) : hasB (-dmax (dmin4 x y u v) (dmax4 x y u v)) (-dmin (dmin4 x y u v) (dmax4 x y u v)) (-dmax x y) = true ∧ hasB (-dmax (dmin4 x y u v) (dmax4 x y u v)) (-dmin (dmin4 x y u v) (dmax4 x y u v)) (-dmin x y) = true := by
  obtain ⟨h1, h2⟩ := btw_x x y u v
  obtain ⟨a1, a2, a3, a4⟩ := btw_min h1 h2
  exact ⟨has_of (by grind) (by grind), has_of (by grind) (by grind)⟩
theorem within_out (x y : Dyadic) (p : Int) : hasB ((dmin x y).roundDown p) ((dmax x y).roundUp p) x = true ∧ hasB ((dmin x y).roundDown p) ((dmax x y).roundUp p) y = true := by
  have h1 := Dyadic.roundDown_le (x := dmin x y) (prec := p)
  have h2 := Dyadic.le_roundUp (x := dmax x y) (prec := p)
  obtain ⟨a1, a2, a3, a4, _⟩ := dmin_le x y
  exact ⟨has_of (by grind) (by grind), has_of (by grind) (by grind)⟩
def meetZ (x y x' y' : Dyadic) : Bool := decide (0 < dsgn (dmax (dmin x y) (dmin x' y') - dmin (dmax x y) (dmax x' y')))
def meetL (x y x' y' : Dyadic) : Dyadic := bif meetZ x y x' y' then 0 else dmax (dmin x y) (dmin x' y')
def meetH (x y x' y' : Dyadic) : Dyadic := bif meetZ x y x' y' then 0 else dmin (dmax x y) (dmax x' y')
theorem mz {z : Bool} (h : ((bif z then (4 : Int) else 0) == 0) = true) : z = false := by cases z <;> simp_all
theorem within_meet {x y x' y' : Dyadic} (hz : meetZ x y x' y' = false) : (hasB x y (meetL x y x' y') = true ∧ hasB x y (meetH x y x' y') = true) ∧ hasB x' y' (meetL x y x' y') = true ∧ hasB x' y' (meetH x y x' y') = true := by
  unfold meetL meetH
  rw [hz]
  simp only [cond_false]
  have h : dmax (dmin x y) (dmin x' y') ≤ dmin (dmax x y) (dmax x' y') := by
    have h1 : ¬ 0 < dsgn (dmax (dmin x y) (dmin x' y') - dmin (dmax x y) (dmax x' y')) := of_decide_eq_false hz
    rw [dsgn_gt] at h1
    grind
  obtain ⟨a1, a2, a3, a4, _⟩ := dmin_le (dmax x y) (dmax x' y')
  obtain ⟨b1, b2, b3, b4, _⟩ := dmin_le (dmin x y) (dmin x' y')
  exact ⟨⟨has_btw ⟨by grind, by grind⟩, has_btw ⟨by grind, by grind⟩⟩, has_btw ⟨by grind, by grind⟩, has_btw ⟨by grind, by grind⟩⟩
theorem not_big {x y u v : Dyadic} (h : hasB (dmin4 x y u v) (dmax4 x y u v) 0 = false) : hasB x y 0 = false := by
  cases e : hasB x y 0 with
  | false => rfl
  | true => rw [has_hull (btw_has e)] at h; cases h
theorem e_ok {x y u v : Dyadic} (h : ((bif hasB (dmin4 x y u v) (dmax4 x y u v) 0 then (1 : Int) else 0) != 0) = false) : ((bif hasB x y 0 then (1 : Int) else 0) == 0) = true := by
  rw [not_big (zf h)]; rfl
theorem within_div {x y u v x' y' : Dyadic} (p : Int) (h : hasB (dmin4 x y u v) (dmax4 x y u v) 0 = false) :
    hasB (bif hasB (dmin4 x y u v) (dmax4 x y u v) 0 then 0 else dmin4 (quoD x' (dmin4 x y u v) p) (quoD x' (dmax4 x y u v) p) (quoD y' (dmin4 x y u v) p) (quoD y' (dmax4 x y u v) p)) (bif hasB (dmin4 x y u v) (dmax4 x y u v) 0 then 0 else dmax4 (quoU x' (dmin4 x y u v) p) (quoU x' (dmax4 x y u v) p) (quoU y' (dmin4 x y u v) p) (quoU y' (dmax4 x y u v) p)) (bif hasB x y 0 then 0 else dmin4 (quoD x' x p) (quoD x' y p) (quoD y' x p) (quoD y' y p)) = true ∧
    hasB (bif hasB (dmin4 x y u v) (dmax4 x y u v) 0 then 0 else dmin4 (quoD x' (dmin4 x y u v) p) (quoD x' (dmax4 x y u v) p) (quoD y' (dmin4 x y u v) p) (quoD y' (dmax4 x y u v) p)) (bif hasB (dmin4 x y u v) (dmax4 x y u v) 0 then 0 else dmax4 (quoU x' (dmin4 x y u v) p) (quoU x' (dmax4 x y u v) p) (quoU y' (dmin4 x y u v) p) (quoU y' (dmax4 x y u v) p)) (bif hasB x y 0 then 0 else dmax4 (quoU x' x p) (quoU x' y p) (quoU y' x p) (quoU y' y p)) = true := by
  have hn := not_has h
  rw [h, not_big h]
  simp only [cond_false]
  obtain ⟨h1, h2⟩ := btw_x x y u v
  have k1 : btw x' y' x' := (by obtain ⟨a, b, c, d, _⟩ := dmin_le x' y'; exact ⟨a, c⟩)
  have k2 : btw x' y' y' := (by obtain ⟨a, b, c, d, _⟩ := dmin_le x' y'; exact ⟨b, d⟩)
  have key : ∀ {a b : Dyadic}, btw x' y' a → btw (dmin4 x y u v) (dmax4 x y u v) b → (dmin4 (quoD x' (dmin4 x y u v) p) (quoD x' (dmax4 x y u v) p) (quoD y' (dmin4 x y u v) p) (quoD y' (dmax4 x y u v) p) ≤ quoD a b p ∧ quoD a b p ≤ dmax4 (quoU x' (dmin4 x y u v) p) (quoU x' (dmax4 x y u v) p) (quoU y' (dmin4 x y u v) p) (quoU y' (dmax4 x y u v) p)) ∧
      (dmin4 (quoD x' (dmin4 x y u v) p) (quoD x' (dmax4 x y u v) p) (quoD y' (dmin4 x y u v) p) (quoD y' (dmax4 x y u v) p) ≤ quoU a b p ∧ quoU a b p ≤ dmax4 (quoU x' (dmin4 x y u v) p) (quoU x' (dmax4 x y u v) p) (quoU y' (dmin4 x y u v) p) (quoU y' (dmax4 x y u v) p)) := fun {a b} ha hb => by
    have l := quo_btw_lo p ha hb hn
    have r := quo_btw_hi p ha hb hn
    have m := quo_lo_hi (x := a) p (btw_ne h hb)
    exact ⟨⟨l, by grind⟩, by grind, r⟩
  have q1 := key k1 h1
  have q2 := key k1 h2
  have q3 := key k2 h1
  have q4 := key k2 h2
  have m1 := (four_mem q1.1 q2.1 q3.1 q4.1).1
  have m2 := (four_mem q1.2 q2.2 q3.2 q4.2).2
  exact ⟨has_of m1.1 m1.2, has_of m2.1 m2.2⟩
section
variable {b c b' c' b2 c2 : Bool} {s t s' t' s2 t2 : ByteArray} {e f e' f' e2 f2 : Int} {x y x' y' : Dyadic} {L T : Nat}
theorem sMeet_e (n1 : ND b s e x) (n2 : ND c t f y) (d1 : DB L T x) (d2 : DB L T y) (m1 : ND b' s' e' x') (m2 : ND c' t' f' y') (k1 : DB L T x') (k2 : DB L T y') (hLT : L + T ≤ 2900000) (W : World) (hT : Tab0 W) :
    Calls Tryz.prog 30 #[rS b s e c t f, rS b' s' e' c' t' f'] W fun r w' => r = .returned (.tuple #[vS (meetL x y x' y') (meetH x y x' y'), .int .i64 (bif meetZ x y x' y' then 4 else 0)]) ∧ Below W.heap.size W w' := by
  have h := sMeet_any W n1 n2 d1 d2 m1 m2 k1 k2 hLT hT
  unfold meetL meetH
  cases hz : meetZ x y x' y' with
  | true => rw [if_pos (of_decide_eq_true hz)] at h; exact h
  | false => rw [if_neg (of_decide_eq_false hz)] at h; exact h
theorem db_meet {x y x' y' : Dyadic} (d1 : DB L T x) (d2 : DB L T y) (k1 : DB L T x') (k2 : DB L T y') : DB L T (meetL x y x' y') ∧ DB L T (meetH x y x' y') := ⟨db_bif (db_dmax (db_dmin d1 d2) (db_dmin k1 k2)), db_bif (db_dmin (db_dmax d1 d2) (db_dmax k1 k2))⟩
theorem db_ceil {P : Nat} {p : Int} (d1 : DB L T x) (h1 : -(P : Int) ≤ p) (h2 : p ≤ P) : DB (L + P) (L + T + P) (x.roundUp p) := by
  have h := db_neg (db_floor (p := p) (db_neg d1) h1 h2)
  have e : x.roundUp p = -((-x).roundDown p) := by rw [Dyadic.roundUp_eq_neg_roundDown_neg]
  rw [e]; exact h
end
theorem rdS3B {w : World} {g : Nat} {b1 b2 b3 c1 c2 c3 : Bool} {s1 s2 s3 t1 t2 t3 : ByteArray} {e1 e2 e3 f1 f2 f3 : Int} {t : TypeId} (h : Bx w g t #[.bool b1, .string s1, .int .i64 e1, .bool c1, .string t1, .int .i64 f1, .bool b2, .string s2, .int .i64 e2, .bool c2, .string t2, .int .i64 f2, .bool b3, .string s3, .int .i64 e3, .bool c3, .string t3, .int .i64 f3]) :
    RdS w (some ⟨g, 0, none⟩) 3 (fun j => if j = 0 then b1 else if j = 1 then b2 else b3) (fun j => if j = 0 then s1 else if j = 1 then s2 else s3) (fun j => if j = 0 then e1 else if j = 1 then e2 else e3) (fun j => if j = 0 then c1 else if j = 1 then c2 else c3) (fun j => if j = 0 then t1 else if j = 1 then t2 else t3) (fun j => if j = 0 then f1 else if j = 1 then f2 else f3) := fun _ =>
  ⟨g, 0, rfl, fun j hj => by
    have : j = 0 ∨ j = 1 ∨ j = 2 := by omega
    rcases this with rfl | rfl | rfl
    · exact ⟨h.cel 0, h.cel 1, h.cel 2, h.cel 3, h.cel 4, h.cel 5⟩
    · exact ⟨h.cel 6, h.cel 7, h.cel 8, h.cel 9, h.cel 10, h.cel 11⟩
    · exact ⟨h.cel 12, h.cel 13, h.cel 14, h.cel 15, h.cel 16, h.cel 17⟩⟩
theorem far3_no {w : World} {g : Nat} {b c b' c' b2 c2 : Bool} {s t s' t' s2 t2 : ByteArray} {e f e' f' e2 f2 : Int} (h : (okN s e ∧ okN t f) ∧ (okN s' e' ∧ okN t' f') ∧ (okN s2 e2 ∧ okN t2 f2)) (hx : Bx w g 27 #[.bool b, .string s, .int .i64 e, .bool c, .string t, .int .i64 f, .bool b', .string s', .int .i64 e', .bool c', .string t', .int .i64 f', .bool b2, .string s2, .int .i64 e2, .bool c2, .string t2, .int .i64 f2]) :
    Calls Tryz.prog 14 #[.slice (some ⟨g, 0, none⟩) 3 3] w fun r w' => r = .returned (.bool false) ∧ Below w.heap.size w w' :=
  far_no _ 3 3 _ _ _ _ _ _ w (by decide) (fun j hj => by
    have : j = 0 ∨ j = 1 ∨ j = 2 := by omega
    rcases this with rfl | rfl | rfl
    · exact h.1
    · exact h.2.1
    · exact h.2.2) (rdS3B hx)
theorem far3_yes {w : World} {g : Nat} {b c b' c' b2 c2 : Bool} {s t s' t' s2 t2 : ByteArray} {e f e' f' e2 f2 : Int} (h : ¬ ((okN s e ∧ okN t f) ∧ (okN s' e' ∧ okN t' f') ∧ (okN s2 e2 ∧ okN t2 f2))) (hx : Bx w g 27 #[.bool b, .string s, .int .i64 e, .bool c, .string t, .int .i64 f, .bool b', .string s', .int .i64 e', .bool c', .string t', .int .i64 f', .bool b2, .string s2, .int .i64 e2, .bool c2, .string t2, .int .i64 f2]) :
    Calls Tryz.prog 14 #[.slice (some ⟨g, 0, none⟩) 3 3] w fun r w' => r = .returned (.bool true) ∧ Below w.heap.size w w' := by
  by_cases h0 : okN s e ∧ okN t f
  · by_cases h1 : okN s' e' ∧ okN t' f'
    · exact far_yes _ 3 3 _ _ _ _ _ _ w (by decide) 2 (by decide) (fun h2 => h ⟨h0, h1, h2⟩) (rdS3B hx)
    · exact far_yes _ 3 3 _ _ _ _ _ _ w (by decide) 1 (by decide) h1 (rdS3B hx)
  · exact far_yes _ 3 3 _ _ _ _ _ _ w (by decide) 0 (by decide) h0 (rdS3B hx)
end Go.Proofs.YtchfglbkiebfpaaGreatDoor

namespace Go.Proofs.YtchfglbkiebfpaaGreatDoor
open Go Go.RowKit


set_option maxRecDepth 100000 in
theorem within_far {b c b' c' b2 c2 : Bool} {s t s' t' s2 t2 : ByteArray} {e f e' f' e2 f2 : Int} {p : Int} (ho : ¬ ((okN s e ∧ okN t f) ∧ (okN s' e' ∧ okN t' f') ∧ (okN s2 e2 ∧ okN t2 f2)))  (w : World) (hT : Tab0 w) : RetAt Tryz.prog w 6 #[rS b s e c t f, rS b' s' e' c' t' f', rS b2 s2 e2 c2 t2 f2, .int .i64 p] (.bool true) := 
  ret_sk ttOk mixed (fun a w => Tryz.call6 a w) Tryz.func6 Tryz.ntmps6 Tryz.results6 _ rfl _ [.o 1 4 (.ret (.val (.bool true))), .o 2 0 (.ret (.val (.bool true)))] (fun W hW hR => (fun (hT : Tab0 W) => ai (rg1 hT Tryz.call14 fun W g h (hx : Bx W g 27 #[.bool b, .string s, .int .i64 e, .bool c, .string t, .int .i64 f, .bool b', .string s', .int .i64 e', .bool c', .string t', .int .i64 f', .bool b2, .string s2, .int .i64 e2, .bool c2, .string t2, .int .i64 f2]) => far3_yes ho hx) <| ai (rt hT Tryz.call15 sawake_any) <| hR) (tab_keep hT hW)) fun W => by kernel_rfl

set_option maxRecDepth 100000 in
theorem within_lo {b c b' c' b2 c2 : Bool} {s t s' t' s2 t2 : ByteArray} {e f e' f' e2 f2 : Int} {p : Int} (ho : ((okN s e ∧ okN t f) ∧ (okN s' e' ∧ okN t' f') ∧ (okN s2 e2 ∧ okN t2 f2))) (hl : p < -300)  (w : World) (hT : Tab0 w) : RetAt Tryz.prog w 6 #[rS b s e c t f, rS b' s' e' c' t' f', rS b2 s2 e2 c2 t2 f2, .int .i64 p] (.bool true) := 
  ret_sk ttOk mixed (fun a w => Tryz.call6 a w) Tryz.func6 Tryz.ntmps6 Tryz.results6 _ rfl _ [.o 1 4 (.ret (.val (.bool false))), .g 1 10 false, .g 1 11 false, .o 1 12 (.pk true), .o 2 0 (.ret (.val (.bool true)))] (fun W hW hR => (fun (hT : Tab0 W) => ai (rg1 hT Tryz.call14 fun W g h (hx : Bx W g 27 #[.bool b, .string s, .int .i64 e, .bool c, .string t, .int .i64 f, .bool b', .string s', .int .i64 e', .bool c', .string t', .int .i64 f', .bool b2, .string s2, .int .i64 e2, .bool c2, .string t2, .int .i64 f2]) => far3_no ho hx) <| ai (lt_y hl) <| ai (lt_y hl) <| ai (lt_y hl) <| ai (rt hT Tryz.call15 sawake_any) <| hR) (tab_keep hT hW)) fun W => by kernel_rfl

set_option maxRecDepth 100000 in
theorem within_hi {b c b' c' b2 c2 : Bool} {s t s' t' s2 t2 : ByteArray} {e f e' f' e2 f2 : Int} {p : Int} (ho : ((okN s e ∧ okN t f) ∧ (okN s' e' ∧ okN t' f') ∧ (okN s2 e2 ∧ okN t2 f2))) (hl : ¬ p < -300) (hh : p > 300)  (w : World) (hT : Tab0 w) : RetAt Tryz.prog w 6 #[rS b s e c t f, rS b' s' e' c' t' f', rS b2 s2 e2 c2 t2 f2, .int .i64 p] (.bool true) := 
  ret_sk ttOk mixed (fun a w => Tryz.call6 a w) Tryz.func6 Tryz.ntmps6 Tryz.results6 _ rfl _ [.o 1 4 (.ret (.val (.bool false))), .g 1 10 true, .g 1 11 true, .o 1 12 (.pk false), .br true, .o 2 0 (.ret (.val (.bool true)))] (fun W hW hR => (fun (hT : Tab0 W) => ai (rg1 hT Tryz.call14 fun W g h (hx : Bx W g 27 #[.bool b, .string s, .int .i64 e, .bool c, .string t, .int .i64 f, .bool b', .string s', .int .i64 e', .bool c', .string t', .int .i64 f', .bool b2, .string s2, .int .i64 e2, .bool c2, .string t2, .int .i64 f2]) => far3_no ho hx) <| ai (lt_n hl) <| ai (lt_n hl) <| ai (lt_n hl) <| ai (gt_y hh) <| ai (rt hT Tryz.call15 sawake_any) <| hR) (tab_keep hT hW)) fun W => by kernel_rfl

set_option maxRecDepth 100000 in
theorem within_x {b c b' c' b2 c2 : Bool} {s t s' t' s2 t2 : ByteArray} {e f e' f' e2 f2 : Int} {x y x' y' u v : Dyadic} {p : Int} (ho : ((okN s e ∧ okN t f) ∧ (okN s' e' ∧ okN t' f') ∧ (okN s2 e2 ∧ okN t2 f2))) (hl : ¬ p < -300) (hh : ¬ p > 300) (n1 : ND b s e x) (n2 : ND c t f y) (n3 : ND b' s' e' x') (n4 : ND c' t' f' y') (n5 : ND b2 s2 e2 u) (n6 : ND c2 t2 f2 v) (d1 : DB 300 620 x) (d2 : DB 300 620 y) (d3 : DB 300 620 x') (d4 : DB 300 620 y') (d5 : DB 300 620 u) (d6 : DB 300 620 v) (hp1 : -((300 : Nat) : Int) ≤ p) (hp2 : p ≤ ((300 : Nat) : Int)) (w : World) (hT : Tab0 w) : RetAt Tryz.prog w 6 #[rS b s e c t f, rS b' s' e' c' t' f', rS b2 s2 e2 c2 t2 f2, .int .i64 p] (.bool true) := by
  have d1_ : DB 300 620 (dmin4 x y u v) := db_dmin (db_dmin (db_dmin d1 d2) d5) d6
  have d2_ : DB 300 620 (dmax4 x y u v) := db_dmax (db_dmax (db_dmax d1 d2) d5) d6
  have d3_ : DB 300 621 (dmin x y + dmin x' y') := db_add (db_dmin d1 d2) (db_dmin d3 d4)
  have d4_ : DB 300 621 (dmax x y + dmax x' y') := db_add (db_dmax d1 d2) (db_dmax d3 d4)
  have d5_ : DB 300 621 (dmin (dmin4 x y u v) (dmax4 x y u v) + dmin x' y') := db_add (db_dmin d1_ d2_) (db_dmin d3 d4)
  have d6_ : DB 300 621 (dmax (dmin4 x y u v) (dmax4 x y u v) + dmax x' y') := db_add (db_dmax d1_ d2_) (db_dmax d3 d4)
  have d7_ : DB 600 1240 (dmin4 (x * x') (x * y') (y * x') (y * y')) := db_dmin (db_dmin (db_dmin (db_mul d1 d3) (db_mul d1 d4)) (db_mul d2 d3)) (db_mul d2 d4)
  have d8_ : DB 600 1240 (dmax4 (x * x') (x * y') (y * x') (y * y')) := db_dmax (db_dmax (db_dmax (db_mul d1 d3) (db_mul d1 d4)) (db_mul d2 d3)) (db_mul d2 d4)
  have d9_ : DB 600 1240 (dmin4 ((dmin4 x y u v) * x') ((dmin4 x y u v) * y') ((dmax4 x y u v) * x') ((dmax4 x y u v) * y')) := db_dmin (db_dmin (db_dmin (db_mul d1_ d3) (db_mul d1_ d4)) (db_mul d2_ d3)) (db_mul d2_ d4)
  have d10_ : DB 600 1240 (dmax4 ((dmin4 x y u v) * x') ((dmin4 x y u v) * y') ((dmax4 x y u v) * x') ((dmax4 x y u v) * y')) := db_dmax (db_dmax (db_dmax (db_mul d1_ d3) (db_mul d1_ d4)) (db_mul d2_ d3)) (db_mul d2_ d4)
  have d11_ : DB 300 620 (-dmax x y) := db_neg (db_dmax d1 d2)
  have d12_ : DB 300 620 (-dmin x y) := db_neg (db_dmin d1 d2)
  have d13_ : DB 300 620 (-dmax (dmin4 x y u v) (dmax4 x y u v)) := db_neg (db_dmax d1_ d2_)
  have d14_ : DB 300 620 (-dmin (dmin4 x y u v) (dmax4 x y u v)) := db_neg (db_dmin d1_ d2_)
  have d15_ : DB 600 1220 ((dmin x y).roundDown p) := db_floor (db_dmin d1 d2) hp1 hp2
  have d16_ : DB 600 1220 ((dmax x y).roundUp p) := db_ceil (db_dmax d1 d2) hp1 hp2
  have d17_ : DB 300 620 (meetL x y x' y') := (db_meet d1 d2 d3 d4).1
  have d18_ : DB 300 620 (meetH x y x' y') := (db_meet d1 d2 d3 d4).2
  have d19_ : DB 300 2440 (bif hasB x y 0 then 0 else dmin4 (quoD x' x p) (quoD x' y p) (quoD y' x p) (quoD y' y p)) := (db_div (L := 300) (T := 620) (P := 300) (hasB x y 0) d3 d4 d1 d2 hp1 hp2).1
  have d20_ : DB 300 2440 (bif hasB x y 0 then 0 else dmax4 (quoU x' x p) (quoU x' y p) (quoU y' x p) (quoU y' y p)) := (db_div (L := 300) (T := 620) (P := 300) (hasB x y 0) d3 d4 d1 d2 hp1 hp2).2
  have d21_ : DB 300 2440 (bif hasB (dmin4 x y u v) (dmax4 x y u v) 0 then 0 else dmin4 (quoD x' (dmin4 x y u v) p) (quoD x' (dmax4 x y u v) p) (quoD y' (dmin4 x y u v) p) (quoD y' (dmax4 x y u v) p)) := (db_div (L := 300) (T := 620) (P := 300) (hasB (dmin4 x y u v) (dmax4 x y u v) 0) d3 d4 d1_ d2_ hp1 hp2).1
  have d22_ : DB 300 2440 (bif hasB (dmin4 x y u v) (dmax4 x y u v) 0 then 0 else dmax4 (quoU x' (dmin4 x y u v) p) (quoU x' (dmax4 x y u v) p) (quoU y' (dmin4 x y u v) p) (quoU y' (dmax4 x y u v) p)) := (db_div (L := 300) (T := 620) (P := 300) (hasB (dmin4 x y u v) (dmax4 x y u v) 0) d3 d4 d1_ d2_ hp1 hp2).2
  exact 
  ret_sk ttOk mixed (fun a w => Tryz.call6 a w) Tryz.func6 Tryz.ntmps6 Tryz.results6 _ rfl _ [.o 1 4 (.ret (.val (.bool false))), .g 1 10 true, .g 1 11 true, .o 1 12 (.pk false), .br false, .o 3 3 (.ret (.val (vS (dmin4 x y u v) (dmax4 x y u v)))), .reg 42 [], .o 4 2 (.ret (.val (.bool true))), .o 4 8 (.ret (.val (vS (dmin x y + dmin x' y') (dmax x y + dmax x' y')))), .o 4 12 (.ret (.val (vS (dmin (dmin4 x y u v) (dmax4 x y u v) + dmin x' y') (dmax (dmin4 x y u v) (dmax4 x y u v) + dmax x' y')))), .o 4 13 (.ret (.val (.bool true))), .o 4 19 (.ret (.val (vS (dmin4 (x * x') (x * y') (y * x') (y * y')) (dmax4 (x * x') (x * y') (y * x') (y * y'))))), .o 4 22 (.ret (.val (vS (dmin4 ((dmin4 x y u v) * x') ((dmin4 x y u v) * y') ((dmax4 x y u v) * x') ((dmax4 x y u v) * y')) (dmax4 ((dmin4 x y u v) * x') ((dmin4 x y u v) * y') ((dmax4 x y u v) * x') ((dmax4 x y u v) * y'))))), .o 4 23 (.ret (.val (.bool true))), .o 4 28 (.ret (.val (vS (-dmax x y) (-dmin x y)))), .o 4 30 (.ret (.val (vS (-dmax (dmin4 x y u v) (dmax4 x y u v)) (-dmin (dmin4 x y u v) (dmax4 x y u v))))), .o 4 31 (.ret (.val (.bool true))), .o 4 38 (.ret (.val (vS ((dmin x y).roundDown p) ((dmax x y).roundUp p)))), .o 4 39 (.ret (.val (.bool true))), .o 6 2 (.ret (.tup [.val (vS (meetL x y x' y') (meetH x y x' y')), .val (.int .i64 (bif meetZ x y x' y' then (4 : Int) else 0))])), .gb 7 3 [.g 7 4 true, .g 7 5 true, .o 7 5 (.ret (.val (.bool true))), .g 7 6 true, .g 7 7 true, .o 7 10 (.ret (.val (.bool true))), .g 7 12 true, .o 7 13 (.pk true), .o 9 3 (.ret (.tup [.val (vS (bif hasB x y 0 then 0 else dmin4 (quoD x' x p) (quoD x' y p) (quoD y' x p) (quoD y' y p)) (bif hasB x y 0 then 0 else dmax4 (quoU x' x p) (quoU x' y p) (quoU y' x p) (quoU y' y p))), .val (.int .i64 (bif hasB x y 0 then (1 : Int) else 0))])), .o 10 3 (.ret (.tup [.val (vS (bif hasB (dmin4 x y u v) (dmax4 x y u v) 0 then 0 else dmin4 (quoD x' (dmin4 x y u v) p) (quoD x' (dmax4 x y u v) p) (quoD y' (dmin4 x y u v) p) (quoD y' (dmax4 x y u v) p)) (bif hasB (dmin4 x y u v) (dmax4 x y u v) 0 then 0 else dmax4 (quoU x' (dmin4 x y u v) p) (quoU x' (dmax4 x y u v) p) (quoU y' (dmin4 x y u v) p) (quoU y' (dmax4 x y u v) p))), .val (.int .i64 (bif hasB (dmin4 x y u v) (dmax4 x y u v) 0 then (1 : Int) else 0))])), .gb 11 3 [.g 11 4 true, .g 11 5 true, .g 11 6 true, .g 11 7 true, .g 11 8 true, .o 11 8 (.ret (.val (.bool true))), .g 11 9 true, .o 11 9 (.pk true), .o 11 10 (.pk false), .o 11 12 (.ret (.val (.bool true)))] [.g 11 4 false, .g 11 5 false, .g 11 9 false, .o 11 10 (.pk true), .o 11 12 (.ret (.val (.bool true)))]] [.g 7 4 false, .g 7 5 false, .g 7 6 false, .g 7 7 false, .g 7 12 false, .o 7 13 (.pk false), .o 9 3 (.ret (.tup [.val (vS (bif hasB x y 0 then 0 else dmin4 (quoD x' x p) (quoD x' y p) (quoD y' x p) (quoD y' y p)) (bif hasB x y 0 then 0 else dmax4 (quoU x' x p) (quoU x' y p) (quoU y' x p) (quoU y' y p))), .val (.int .i64 (bif hasB x y 0 then (1 : Int) else 0))])), .o 10 3 (.ret (.tup [.val (vS (bif hasB (dmin4 x y u v) (dmax4 x y u v) 0 then 0 else dmin4 (quoD x' (dmin4 x y u v) p) (quoD x' (dmax4 x y u v) p) (quoD y' (dmin4 x y u v) p) (quoD y' (dmax4 x y u v) p)) (bif hasB (dmin4 x y u v) (dmax4 x y u v) 0 then 0 else dmax4 (quoU x' (dmin4 x y u v) p) (quoU x' (dmax4 x y u v) p) (quoU y' (dmin4 x y u v) p) (quoU y' (dmax4 x y u v) p))), .val (.int .i64 (bif hasB (dmin4 x y u v) (dmax4 x y u v) 0 then (1 : Int) else 0))])), .gb 11 3 [.g 11 4 true, .g 11 5 true, .g 11 6 true, .g 11 7 true, .g 11 8 true, .o 11 8 (.ret (.val (.bool true))), .g 11 9 true, .o 11 9 (.pk true), .o 11 10 (.pk false), .o 11 12 (.ret (.val (.bool true)))] [.g 11 4 false, .g 11 5 false, .g 11 9 false, .o 11 10 (.pk true), .o 11 12 (.ret (.val (.bool true)))]]] (fun W hW hR => (fun (hT : Tab0 W) => ai (rg1 hT Tryz.call14 fun W g h (hx : Bx W g 27 #[.bool b, .string s, .int .i64 e, .bool c, .string t, .int .i64 f, .bool b', .string s', .int .i64 e', .bool c', .string t', .int .i64 f', .bool b2, .string s2, .int .i64 e2, .bool c2, .string t2, .int .i64 f2]) => far3_no ho hx) <| ai (lt_n hl) <| ai (lt_n hl) <| ai (lt_n hl) <| ai (gt_n hh) <| ai (rg1 hT Tryz.call34 fun W g h hx => sHull2 n1 n2 n5 n6 h hx) <| ai (rt hT Tryz.call33 (sWithin_t ((in_x x y u v).1) ((in_x x y u v).2) n1 n2 (nd_db d1_ (by decide)) (nd_db d2_ (by decide)) d1_ d2_ (by decide))) <| ai (rg1 hT Tryz.call16 fun W g h hx => sAdd2 n1 n2 n3 n4 d1 d2 d3 d4 (by decide) h hx) <| ai (rg1 hT Tryz.call16 fun W g h hx => sAdd2 (nd_db d1_ (by decide)) (nd_db d2_ (by decide)) n3 n4 d1_ d2_ d3 d4 (by decide) h hx) <| ai (rt hT Tryz.call33 (sWithin_t ((within_add x y u v x' y').1) ((within_add x y u v x' y').2) (nd_db d3_ (by decide)) (nd_db d4_ (by decide)) (nd_db d5_ (by decide)) (nd_db d6_ (by decide)) d5_ d6_ (by decide))) <| ai (rt hT Tryz.call20 fun W h => sMul_any W n1 n2 n3 n4 d1 d2 d3 d4 (by decide) h) <| ai (rt hT Tryz.call20 fun W h => sMul_any W (nd_db d1_ (by decide)) (nd_db d2_ (by decide)) n3 n4 d1_ d2_ d3 d4 (by decide) h) <| ai (rt hT Tryz.call33 (sWithin_t ((within_mul x y u v x' y').1) ((within_mul x y u v x' y').2) (nd_db d7_ (by decide)) (nd_db d8_ (by decide)) (nd_db d9_ (by decide)) (nd_db d10_ (by decide)) d9_ d10_ (by decide))) <| ai (rt hT Tryz.call18 fun W h => sNeg_any W n1 n2 d1 d2 (by decide) h) <| ai (rt hT Tryz.call18 fun W h => sNeg_any W (nd_db d1_ (by decide)) (nd_db d2_ (by decide)) d1_ d2_ (by decide) h) <| ai (rt hT Tryz.call33 (sWithin_t ((within_neg x y u v).1) ((within_neg x y u v).2) (nd_db d11_ (by decide)) (nd_db d12_ (by decide)) (nd_db d13_ (by decide)) (nd_db d14_ (by decide)) d13_ d14_ (by decide))) <| ai (rt hT Tryz.call28 fun W h => sOut_any p W n1 n2 d1 d2 (by decide) (by omega) (by omega) h) <| ai (rt hT Tryz.call33 (sWithin_t ((within_out x y p).1) ((within_out x y p).2) n1 n2 (nd_db d15_ (by decide)) (nd_db d16_ (by decide)) d15_ d16_ (by decide))) <| ai (rt hT Tryz.call30 (sMeet_e n1 n2 d1 d2 n3 n4 d3 d4 (by decide))) <| ai (fun hm : ((bif meetZ x y x' y' then (4 : Int) else 0) == 0) = true => ai hm <| ai hm <| ai (rt hT Tryz.call33 (sWithin_t ((within_meet (mz hm)).1.1) ((within_meet (mz hm)).1.2) (nd_db d17_ (by decide)) (nd_db d18_ (by decide)) n1 n2 d1 d2 (by decide))) <| ai hm <| ai hm <| ai (rt hT Tryz.call33 (sWithin_t ((within_meet (mz hm)).2.1) ((within_meet (mz hm)).2.2) (nd_db d17_ (by decide)) (nd_db d18_ (by decide)) n3 n4 d3 d4 (by decide))) <| ai hm <| ai hm <| ai (rt hT Tryz.call26 (sDiv_e p n3 n4 d3 d4 n1 n2 d1 d2 (by decide) hp1 hp2)) <| ai (rt hT Tryz.call26 (sDiv_e p n3 n4 d3 d4 (nd_db d1_ (by decide)) (nd_db d2_ (by decide)) d1_ d2_ (by decide) hp1 hp2)) <| ai (fun hf : ((bif hasB (dmin4 x y u v) (dmax4 x y u v) 0 then (1 : Int) else 0) != 0) = false => ai hf <| ai hf <| ai (e_ok hf) <| ai (e_ok hf) <| ai (e_ok hf) <| ai (rt hT Tryz.call33 (sWithin_t ((within_div (x := x) (y := y) (u := u) (v := v) (x' := x') (y' := y') p (zf hf)).1) ((within_div (x := x) (y := y) (u := u) (v := v) (x' := x') (y' := y') p (zf hf)).2) (nd_db d19_ (by decide)) (nd_db d20_ (by decide)) (nd_db d21_ (by decide)) (nd_db d22_ (by decide)) d21_ d22_ (by decide))) <| ai hf <| ai (e_ok hf) <| ai hf <| ai (rt hT Tryz.call15 sawake_any) <| hR) fun hf : ((bif hasB (dmin4 x y u v) (dmax4 x y u v) 0 then (1 : Int) else 0) != 0) = (!false) => ai hf <| ai hf <| ai hf <| ai hf <| ai (rt hT Tryz.call15 sawake_any) <| hR) fun hm : ((bif meetZ x y x' y' then (4 : Int) else 0) == 0) = (!true) => ai hm <| ai hm <| ai hm <| ai hm <| ai hm <| ai hm <| ai (rt hT Tryz.call26 (sDiv_e p n3 n4 d3 d4 n1 n2 d1 d2 (by decide) hp1 hp2)) <| ai (rt hT Tryz.call26 (sDiv_e p n3 n4 d3 d4 (nd_db d1_ (by decide)) (nd_db d2_ (by decide)) d1_ d2_ (by decide) hp1 hp2)) <| ai (fun hf : ((bif hasB (dmin4 x y u v) (dmax4 x y u v) 0 then (1 : Int) else 0) != 0) = false => ai hf <| ai hf <| ai (e_ok hf) <| ai (e_ok hf) <| ai (e_ok hf) <| ai (rt hT Tryz.call33 (sWithin_t ((within_div (x := x) (y := y) (u := u) (v := v) (x' := x') (y' := y') p (zf hf)).1) ((within_div (x := x) (y := y) (u := u) (v := v) (x' := x') (y' := y') p (zf hf)).2) (nd_db d19_ (by decide)) (nd_db d20_ (by decide)) (nd_db d21_ (by decide)) (nd_db d22_ (by decide)) d21_ d22_ (by decide))) <| ai hf <| ai (e_ok hf) <| ai hf <| ai (rt hT Tryz.call15 sawake_any) <| hR) fun hf : ((bif hasB (dmin4 x y u v) (dmax4 x y u v) 0 then (1 : Int) else 0) != 0) = (!false) => ai hf <| ai hf <| ai hf <| ai hf <| ai (rt hT Tryz.call15 sawake_any) <| hR) (tab_keep hT hW)) fun W => by kernel_rfl

theorem spanWithin_any (b : Bool) (s : ByteArray) (e : Int) (c : Bool) (t : ByteArray) (f : Int) (b' : Bool) (s' : ByteArray) (e' : Int) (c' : Bool) (t' : ByteArray) (f' : Int) (b2 : Bool) (s2 : ByteArray) (e2 : Int) (c2 : Bool) (t2 : ByteArray) (f2 : Int) (p : Int) (w : World) (hT : Tab0 w) :
    Calls Tryz.prog 6 #[.agg #[.bool b, .string s, .int .i64 e, .bool c, .string t, .int .i64 f], .agg #[.bool b', .string s', .int .i64 e', .bool c', .string t', .int .i64 f'], .agg #[.bool b2, .string s2, .int .i64 e2, .bool c2, .string t2, .int .i64 f2], .int .i64 p] w fun e w' => e = .returned (.bool true) ∧ Below w.heap.size w w' := by
  by_cases ho : (okN s e ∧ okN t f) ∧ (okN s' e' ∧ okN t' f') ∧ (okN s2 e2 ∧ okN t2 f2)
  · by_cases hl : p < -300
    · exact (within_lo ho hl w hT).at
    · by_cases hh : p > 300
      · exact (within_hi ho hl hh w hT).at
      · exact (within_x ho hl hh (nd_ok ho.1.1) (nd_ok ho.1.2) (nd_ok ho.2.1.1) (nd_ok ho.2.1.2) (nd_ok ho.2.2.1) (nd_ok ho.2.2.2) (db_ok ho.1.1) (db_ok ho.1.2) (db_ok ho.2.1.1) (db_ok ho.2.1.2) (db_ok ho.2.2.1) (db_ok ho.2.2.2) (by omega) (by omega) w hT).at
  · exact (within_far ho w hT).at

end Go.Proofs.YtchfglbkiebfpaaGreatDoor

