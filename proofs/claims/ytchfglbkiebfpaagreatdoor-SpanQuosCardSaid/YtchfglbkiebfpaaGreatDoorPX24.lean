/- The walks and plain laws beneath the statements. -/
import Derived.Test.YtchfglbkiebfpaaGreatDoorPX23
namespace Go.Proofs.YtchfglbkiebfpaaGreatDoor
open Go

theorem quo_same (x y : Dyadic) (p : Int) : dy (quoM x y p) 0 * y = dy (quoN x y p) 0 * x * dy 1 p := by
  rw [show dy (quoM x y p) 0 * y = dy (quoM x y p) 0 * dy (dm y) (de y) by rw [dy_dm], show dy (quoN x y p) 0 * x = dy (quoN x y p) 0 * dy (dm x) (de x) by rw [dy_dm]]
  rw [dy_mul, dy_mul, dy_mul]
  unfold quoM quoN
  by_cases h : 0 ≤ de x - de y + p
  · rw [if_pos h, if_pos h, Int.mul_one, show dm x * 2 ^ (de x - de y + p).toNat * dm y = (dm y * dm x) * 2 ^ (de x - de y + p).toNat by grind, dy_shl]
    congr 1; omega
  · rw [if_neg h, if_neg h, Int.mul_one, show dm y * 2 ^ (-(de x - de y + p)).toNat * dm x = (dm x * dm y) * 2 ^ (-(de x - de y + p)).toNat by grind, dy_shl]
    congr 1; omega
theorem dle_cancel {a b c : Dyadic} (hc : 0 < c) (h : a * c ≤ b * c) : a ≤ b := by
  rw [← Dyadic.toRat_le_toRat_iff] at h ⊢
  rw [← Dyadic.toRat_lt_toRat_iff] at hc
  rw [Dyadic.toRat_mul, Dyadic.toRat_mul] at h
  exact Rat.le_of_mul_le_mul_right h hc
theorem dlt_cancel {a b c : Dyadic} (hc : 0 < c) (h : a * c < b * c) : a < b := by
  rw [← Dyadic.toRat_lt_toRat_iff] at h hc ⊢
  rw [Dyadic.toRat_mul, Dyadic.toRat_mul] at h
  exact Rat.lt_of_mul_lt_mul_right h (Rat.le_of_lt hc)
theorem dmul_le {a b c : Dyadic} (hc : 0 ≤ c) (h : a ≤ b) : a * c ≤ b * c := by
  rw [← Dyadic.toRat_le_toRat_iff] at h hc ⊢
  rw [Dyadic.toRat_mul, Dyadic.toRat_mul]
  exact Rat.mul_le_mul_of_nonneg_right h hc
theorem dmul_lt {a b c : Dyadic} (hc : 0 < c) (h : a < b) : a * c < b * c := by
  rw [← Dyadic.toRat_lt_toRat_iff] at h hc ⊢
  rw [Dyadic.toRat_mul, Dyadic.toRat_mul]
  exact Rat.mul_lt_mul_of_pos_right h hc
theorem dy_pos {m : Int} (e : Int) (h : 0 < m) : 0 < dy m e := dsgn_gt.1 (by rw [dsgn_dy]; exact sgn_gt.2 h)
theorem quoN_pos {x y : Dyadic} {p : Int} (hy : 0 < y) : 0 < quoN x y p := by
  have h1 : 0 < dm y := by
    have h := dsgn_gt.2 hy
    unfold dsgn at h
    exact sgn_gt.1 h
  unfold quoN; split
  · exact h1
  · exact Int.mul_pos h1 (Int.pow_pos (by decide))
/-- The quotient's lower end on the grid, and one step further. -/
theorem quo_between {x y : Dyadic} (p : Int) (hy : 0 < y) : quoD x y p * y ≤ x ∧ x < (quoD x y p + dy 1 (-p)) * y := by
  have hN := quoN_pos (x := x) (p := p) hy
  have hs := quo_same x y p
  have hc : 0 < dy (quoN x y p) 0 * dy 1 p := by
    have h := dmul_lt (dy_pos p (by decide : (0 : Int) < 1)) (dy_pos 0 hN)
    rwa [Dyadic.zero_mul] at h
  unfold quoD
  rw [if_neg (by omega)]
  generalize quoN x y p = N at *
  generalize quoM x y p = M at *
  have q1 := Int.ediv_mul_le M (Int.ne_of_gt hN)
  have q2 := Int.lt_ediv_add_one_mul_self M hN
  generalize M / N = q at *
  have ep : ∀ a : Int, dy a (-p) * dy 1 p = dy a 0 := fun a => by rw [dy_mul, Int.mul_one]; congr 1; omega
  have hy0 : (0 : Dyadic) ≤ y := by grind
  have en : ∀ a : Int, dy a 0 * dy N 0 = dy (a * N) 0 := fun a => by rw [dy_mul]; rfl
  constructor
  · refine dle_cancel hc ?_
    have h1 : dy q (-p) * y * (dy N 0 * dy 1 p) = dy (q * N) 0 * y := by rw [← en, ← ep]; grind
    rw [h1, show x * (dy N 0 * dy 1 p) = dy M 0 * y by rw [hs]; grind]
    refine dmul_le hy0 ?_
    have h2 := mt (dy_lt (e := 0)).1 (Int.not_lt.2 q1)
    grind
  · refine dlt_cancel hc ?_
    have h1 : (dy q (-p) + dy 1 (-p)) * y * (dy N 0 * dy 1 p) = dy ((q + 1) * N) 0 * y := by rw [dy_add, ← en, ← ep]; grind
    rw [h1, show x * (dy N 0 * dy 1 p) = dy M 0 * y by rw [hs]; grind]
    exact dmul_lt hy (dy_lt.2 q2)
theorem quoM_neg (x y : Dyadic) (p : Int) : quoM (-x) (-y) p = -quoM x y p ∧ quoN (-x) (-y) p = -quoN x y p := by
  obtain ⟨a1, a2⟩ := neg_form x
  obtain ⟨b1, b2⟩ := neg_form y
  unfold quoM quoN
  rw [a1, a2, b1, b2]
  split <;> constructor <;> first | rfl | rw [Int.neg_mul]
/-- Turned round, both: the same quotient. -/
theorem quoD_neg {x y : Dyadic} (p : Int) (hy : y ≠ 0) : quoD (-x) (-y) p = quoD x y p := by
  obtain ⟨h1, h2⟩ := quoM_neg x y p
  have hN := quoN_ne (x := x) (p := p) hy
  unfold quoD
  rw [h1, h2]
  by_cases h : quoN x y p < 0
  · rw [if_pos h, if_neg (by omega)]
  · rw [if_neg h, if_pos (by omega), Int.neg_neg, Int.neg_neg]
theorem dmin_le (x y : Dyadic) : dmin x y ≤ x ∧ dmin x y ≤ y ∧ x ≤ dmax x y ∧ y ≤ dmax x y ∧ dmin x y ≤ dmax x y := by
  unfold dmin dmax; refine ⟨?_, ?_, ?_, ?_, ?_⟩ <;> grind
theorem hasB_iff (x y a : Dyadic) : hasB x y a = true ↔ dmin x y ≤ a ∧ a ≤ dmax x y := by
  have key : ∀ u v : Dyadic, dsgn (u - v) ≤ 0 ↔ u ≤ v := fun u v => by
    constructor
    · intro h
      have h1 : ¬ 0 < u - v := fun h2 => by have := dsgn_gt.2 h2; omega
      grind
    · intro h
      refine Int.not_lt.1 fun h2 => ?_
      have := dsgn_gt.1 h2
      grind
  unfold hasB
  rw [Bool.and_eq_true, decide_eq_true_eq, decide_eq_true_eq, key, key]
/-- Between two numbers, whichever is the lesser one. -/
def btw (u v t : Dyadic) : Prop := dmin u v ≤ t ∧ t ≤ dmax u v
theorem btw_mul {u v t : Dyadic} (h : btw u v t) (c : Dyadic) : btw (u * c) (v * c) (t * c) := by
  have key : ∀ {a b c : Dyadic}, a ≤ b → (0 ≤ c → a * c ≤ b * c) ∧ (c ≤ 0 → b * c ≤ a * c) := fun {a b c} h1 =>
    ⟨fun hc => dmul_le hc h1, fun hc => by
      have h2 := dmul_le (c := -c) (by grind) h1
      grind⟩
  obtain ⟨h1, h2⟩ := h
  rcases Dyadic.le_total (0 : Dyadic) c with hc | hc
  · rcases Dyadic.le_total u v with huv | huv
    · have e1 : dmin u v = u := by unfold dmin; grind
      have e2 : dmax u v = v := by unfold dmax; grind
      rw [e1] at h1; rw [e2] at h2
      have k1 := (key h1).1 hc
      have k2 := (key h2).1 hc
      unfold btw dmin dmax; constructor <;> grind
    · have e1 : dmin u v = v := by unfold dmin; grind
      have e2 : dmax u v = u := by unfold dmax; grind
      rw [e1] at h1; rw [e2] at h2
      have k1 := (key h1).1 hc
      have k2 := (key h2).1 hc
      unfold btw dmin dmax; constructor <;> grind
  · rcases Dyadic.le_total u v with huv | huv
    · have e1 : dmin u v = u := by unfold dmin; grind
      have e2 : dmax u v = v := by unfold dmax; grind
      rw [e1] at h1; rw [e2] at h2
      have k1 := (key h1).2 hc
      have k2 := (key h2).2 hc
      unfold btw dmin dmax; constructor <;> grind
    · have e1 : dmin u v = v := by unfold dmin; grind
      have e2 : dmax u v = u := by unfold dmax; grind
      rw [e1] at h1; rw [e2] at h2
      have k1 := (key h1).2 hc
      have k2 := (key h2).2 hc
      unfold btw dmin dmax; constructor <;> grind
theorem btw_prod {x y x' y' a b : Dyadic} (ha : btw x y a) (hb : btw x' y' b) : dmin4 (x * x') (x * y') (y * x') (y * y') ≤ a * b ∧ a * b ≤ dmax4 (x * x') (x * y') (y * x') (y * y') := by
  have h1 := btw_mul ha x'
  have h2 := btw_mul ha y'
  have h3 := btw_mul hb a
  rw [show x' * a = a * x' by grind, show y' * a = a * y' by grind, show b * a = a * b by grind] at h3
  unfold btw at h1 h2 h3
  unfold dmin4 dmax4
  unfold dmin dmax at *
  generalize x * x' = p1 at *
  generalize x * y' = p2 at *
  generalize y * x' = p3 at *
  generalize y * y' = p4 at *
  generalize a * x' = p5 at *
  generalize a * y' = p6 at *
  generalize a * b = p7 at *
  constructor <;> grind
theorem quoD_grid (x y : Dyadic) (p : Int) : ∃ q : Int, quoD x y p = dy q (-p) := by
  unfold quoD; split <;> exact ⟨_, rfl⟩
/-- A greater quotient, a greater one on the grid. -/
theorem quo_mono {x y x' y' : Dyadic} (p : Int) (hy : 0 < y) (hy' : 0 < y') (h : x * y' ≤ x' * y) : quoD x y p ≤ quoD x' y' p := by
  have h1 := (quo_between (x := x) p hy).1
  have h2 := (quo_between (x := x') p hy').2
  obtain ⟨q, e1⟩ := quoD_grid x y p
  obtain ⟨q', e2⟩ := quoD_grid x' y' p
  rw [e1] at h1 ⊢
  rw [e2, dy_add] at h2
  rw [e2]
  have h3 := dmul_le (c := y') (by grind) h1
  have h4 := dmul_lt hy h2
  have h5 : dy q (-p) * (y * y') < dy (q' + 1) (-p) * (y * y') := by grind
  have hc : 0 < y * y' := by
    have h6 := dmul_lt hy' hy
    rwa [Dyadic.zero_mul] at h6
  have h7 := dy_lt.1 (dlt_cancel hc h5)
  have h8 := mt (dy_lt (m := q') (n := q) (e := -p)).1 (by omega)
  grind
theorem btw_neg {u v t : Dyadic} (h : btw u v t) : btw (-u) (-v) (-t) := by
  unfold btw dmin dmax at *; grind
/-- A quotient of numbers between: from the least of the four on. -/
theorem quo_btw_pos {x y x' y' a b : Dyadic} (p : Int) (ha : btw x y a) (hb : btw x' y' b) (h0 : 0 < dmin x' y') : dmin4 (quoD x x' p) (quoD x y' p) (quoD y x' p) (quoD y y' p) ≤ quoD a b p := by
  obtain ⟨a1, a2⟩ := ha
  obtain ⟨b1, b2⟩ := hb
  have hb0 : 0 < b := by grind
  have key : ∀ m n : Dyadic, 0 < n → m * b ≤ a * n → (m = x ∨ m = y) → (n = x' ∨ n = y') → dmin4 (quoD x x' p) (quoD x y' p) (quoD y x' p) (quoD y y' p) ≤ quoD a b p := by
    intro m n hn h hm hk
    have h1 := quo_mono p hn hb0 h
    have h2 : dmin4 (quoD x x' p) (quoD x y' p) (quoD y x' p) (quoD y y' p) ≤ quoD m n p := by
      unfold dmin4 dmin
      rcases hm with rfl | rfl <;> rcases hk with rfl | rfl <;> grind
    grind
  have hm : dmin x y = x ∨ dmin x y = y := by unfold dmin; grind
  have hn1 : dmin x' y' = x' ∨ dmin x' y' = y' := by unfold dmin; grind
  have hn2 : dmax x' y' = x' ∨ dmax x' y' = y' := by unfold dmax; grind
  have hM : 0 < dmax x' y' := by grind
  generalize dmin x y = m at *
  rcases Dyadic.le_total (0 : Dyadic) m with h | h
  · refine key m _ hM ?_ hm hn2
    have h1 := dmul_le h b2
    have h2 := dmul_le (c := dmax x' y') (by grind) a1
    grind
  · refine key m _ h0 ?_ hm hn1
    have h1 := dmul_le (c := -m) (by grind) b1
    have h2 := dmul_le (c := dmin x' y') (by grind) a1
    grind
/-- Has it 0? Then of one sign. -/
theorem quo_btw_lo {x y x' y' a b : Dyadic} (p : Int) (ha : btw x y a) (hb : btw x' y' b) (h0 : ¬ btw x' y' 0) : dmin4 (quoD x x' p) (quoD x y' p) (quoD y x' p) (quoD y y' p) ≤ quoD a b p := by
  by_cases hp : 0 < dmin x' y'
  · exact quo_btw_pos p ha hb hp
  · have hn : dmax x' y' < 0 := by unfold btw at h0; grind
    have e1 : x' < 0 := by unfold dmax at hn; grind
    have e2 : y' < 0 := by unfold dmax at hn; grind
    have e3 : b < 0 := by have := hb.2; grind
    have h1 := quo_btw_pos p (btw_neg ha) (btw_neg hb) (by unfold dmin; grind)
    rwa [quoD_neg p (by grind), quoD_neg p (by grind), quoD_neg p (by grind), quoD_neg p (by grind), quoD_neg p (by grind)] at h1
/-- The upper end on the grid. -/
def quoU (x y : Dyadic) (p : Int) : Dyadic := -quoD (-x) y p
theorem quo_btw_hi {x y x' y' a b : Dyadic} (p : Int) (ha : btw x y a) (hb : btw x' y' b) (h0 : ¬ btw x' y' 0) : quoU a b p ≤ dmax4 (quoU x x' p) (quoU x y' p) (quoU y x' p) (quoU y y' p) := by
  have h := quo_btw_lo p (btw_neg ha) hb h0
  unfold quoU dmax4 dmax
  unfold dmin4 dmin at h
  generalize quoD (-x) x' p = q1 at *
  generalize quoD (-x) y' p = q2 at *
  generalize quoD (-y) x' p = q3 at *
  generalize quoD (-y) y' p = q4 at *
  generalize quoD (-a) b p = q5 at *
  grind
theorem quo_lo_hi {x y : Dyadic} (p : Int) (hy : y ≠ 0) : quoD x y p ≤ quoU x y p := by
  have pos : ∀ {x y : Dyadic}, 0 < y → quoD x y p ≤ quoU x y p := fun {x y} h => by
    have h1 := (quo_between (x := x) p h).1
    have h2 := (quo_between (x := -x) p h).1
    unfold quoU
    refine dle_cancel h ?_
    grind
  by_cases h : 0 < y
  · exact pos h
  · have h1 := pos (x := -x) (y := -y) (by grind)
    unfold quoU at h1 ⊢
    rwa [quoD_neg p hy, quoD_neg p hy] at h1
theorem dy_shift (z : Dyadic) (k : Int) : dy (dm z) (de z + k) = z * dy 1 k := by
  rw [show z * dy 1 k = dy (dm z) (de z) * dy 1 k by rw [dy_dm], dy_mul, Int.mul_one]
theorem dy_half : dy 1 (-1) + dy 1 (-1) = 1 := by
  rw [dy_add, show (1 + 1 : Int) = 1 * 2 ^ 1 from rfl, dy_shl]; rfl
theorem mid_lo (x y : Dyadic) : dy (dm (x + y)) (de (x + y) + -1) - dmin x y = dy (dm (dmax x y - dmin x y)) (de (dmax x y - dmin x y) + -1) := by
  rw [dy_shift, dy_shift]
  have h := dy_half
  generalize dy 1 (-1) = k at *
  have e : dmin x y + dmax x y = x + y := by unfold dmin dmax; grind
  have e2 : dmin x y = dmin x y * (k + k) := by rw [h, Dyadic.mul_one]
  rw [← e]
  grind
/-- So many 256ths of the way. -/
def placeD (x y : Dyadic) (n : Nat) : Dyadic := dmin x y + dy (dm ((dmax x y - dmin x y) * dy n 0)) (de ((dmax x y - dmin x y) * dy n 0) + -8)
theorem place_btw (x y : Dyadic) {n : Nat} (hn : n ≤ 256) : btw x y (placeD x y n) := by
  have e : placeD x y n = dmin x y + (dmax x y - dmin x y) * dy n (-8) := by
    unfold placeD
    rw [dy_shift, show dy (n : Int) (-8) = dy n 0 * dy 1 (-8) by rw [dy_mul, Int.mul_one]; rfl]
    grind
  have h0 : 0 ≤ dmax x y - dmin x y := by unfold dmin dmax; grind
  have h1 : (0 : Dyadic) ≤ dy n (-8) := by
    have h := mt (dy_lt (m := n) (n := 0) (e := -8)).1 (by omega)
    rw [dy_zero] at h
    grind
  have h2 : dy n (-8) ≤ 1 := by
    have h := mt (dy_lt (m := 256) (n := n) (e := -8)).1 (by omega)
    rw [show dy 256 (-8) = 1 by rw [show (256 : Int) = 1 * 2 ^ 8 from rfl, dy_shl]; rfl] at h
    grind
  have h3 := dmul_le h0 h1
  have h4 := dmul_le h0 h2
  rw [Dyadic.zero_mul] at h3
  rw [Dyadic.one_mul] at h4
  unfold btw
  rw [e]
  constructor <;> grind
/-- The ends of a quotient: the same, or one step apart, and the quotient between them. -/
theorem quo_step_pos {x y : Dyadic} (p : Int) (hy : 0 < y) (h : quoD x y p ≠ quoU x y p) : quoU x y p = quoD x y p + dy 1 (-p) ∧ quoD x y p * y < x ∧ x < quoU x y p * y := by
  have h1 := quo_between (x := x) p hy
  have h2 := quo_between (x := -x) p hy
  have h3 := quo_lo_hi (x := x) p (y := y) (by grind)
  have es : quoU x y p = quoD x y p + dy 1 (-p) := by
    obtain ⟨q, e1⟩ := quoD_grid x y p
    obtain ⟨q', e2⟩ := quoD_grid (-x) y p
    have e3 : quoU x y p = dy (-q') (-p) := by unfold quoU; rw [e2, dy_neg]
    rw [e1, e3] at h h3 ⊢
    rw [e1] at h1
    rw [e2] at h2
    rw [dy_add] at h1 h2 ⊢
    have k1 : -q' ≠ q := fun e => h (by rw [e])
    have k2 : ¬ -q' < q := fun e => by have := dy_lt (e := -p) |>.2 e; grind
    have k3 : -q' < q + 2 := by
      refine (dy_lt (e := -p)).1 (dlt_cancel hy ?_)
      have e4 : dy (-q') (-p) = -dy (q' + 1) (-p) + dy 1 (-p) := by rw [dy_neg, dy_add]; congr 1; omega
      have e5 : dy (q + 2) (-p) = dy (q + 1) (-p) + dy 1 (-p) := by rw [dy_add]; congr 1; omega
      rw [e4, e5]
      grind
    congr 1; omega
  refine ⟨es, ?_, ?_⟩
  · have h4 := h2.2
    have h5 : quoD x y p = quoU x y p - dy 1 (-p) := by grind
    rw [h5]
    unfold quoU
    grind
  · rw [es]; exact h1.2
theorem quo_ends {x y : Dyadic} (p : Int) (hy : y ≠ 0) : dsgn (quoD x y p * y - x) * dsgn y ≤ 0 ∧ 0 ≤ dsgn (quoU x y p * y - x) * dsgn y ∧
    (quoD x y p = quoU x y p → dsgn (quoD x y p * y - x) * dsgn y = 0) ∧ (quoD x y p ≠ quoU x y p → dsgn (quoD x y p * y - x) * dsgn y < 0 ∧ 0 < dsgn (quoU x y p * y - x) * dsgn y ∧ quoU x y p - quoD x y p = dy 1 (-p)) := by
  rw [← dsgn_mul, ← dsgn_mul]
  have pos : ∀ {x y : Dyadic}, 0 < y → (quoD x y p * y - x) * y ≤ 0 ∧ 0 ≤ (quoU x y p * y - x) * y ∧ (quoD x y p = quoU x y p → (quoD x y p * y - x) * y = 0) ∧ (quoD x y p ≠ quoU x y p → (quoD x y p * y - x) * y < 0 ∧ 0 < (quoU x y p * y - x) * y ∧ quoU x y p - quoD x y p = dy 1 (-p)) := by
    intro x y h
    have h1 := (quo_between (x := x) p h).1
    have h2 := (quo_between (x := -x) p h).1
    have h3 : x ≤ quoU x y p * y := by unfold quoU; grind
    have k1 := dmul_le (c := y) (by grind) h1
    have k2 := dmul_le (c := y) (by grind) h3
    refine ⟨by grind, by grind, fun e => ?_, fun e => ?_⟩
    · rw [← e] at h3
      have : quoD x y p * y = x := by grind
      grind
    · obtain ⟨s1, s2, s3⟩ := quo_step_pos p h e
      have k3 := dmul_lt h s2
      have k4 := dmul_lt h s3
      exact ⟨by grind, by grind, by grind⟩
  have nle : ∀ z : Dyadic, z ≤ 0 → dsgn z ≤ 0 := fun z h => Int.not_lt.1 fun h2 => by have := dsgn_gt.1 h2; grind
  have nge : ∀ z : Dyadic, 0 ≤ z → 0 ≤ dsgn z := fun z h => Int.not_lt.1 fun h2 => by have := dsgn_lt.1 h2; grind
  have fin : (quoD x y p * y - x) * y ≤ 0 ∧ 0 ≤ (quoU x y p * y - x) * y ∧ (quoD x y p = quoU x y p → (quoD x y p * y - x) * y = 0) ∧ (quoD x y p ≠ quoU x y p → (quoD x y p * y - x) * y < 0 ∧ 0 < (quoU x y p * y - x) * y ∧ quoU x y p - quoD x y p = dy 1 (-p)) := by
    by_cases h : 0 < y
    · exact pos h
    · have h1 := pos (x := -x) (y := -y) (by grind)
      have u1 : quoU (-x) (-y) p = quoU x y p := by unfold quoU; exact congrArg _ (quoD_neg p hy)
      rw [quoD_neg p hy, u1] at h1
      rw [show (quoD x y p * y - x) * y = (quoD x y p * -y - -x) * -y by grind, show (quoU x y p * y - x) * y = (quoU x y p * -y - -x) * -y by grind]
      exact h1
  obtain ⟨f1, f2, f3, f4⟩ := fin
  exact ⟨nle _ f1, nge _ f2, fun e => dsgn_eq.2 (f3 e), fun e => ⟨dsgn_lt.2 (f4 e).1, dsgn_gt.2 (f4 e).2.1, (f4 e).2.2⟩⟩
end Go.Proofs.YtchfglbkiebfpaaGreatDoor

