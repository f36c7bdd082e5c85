/- The walks and plain laws beneath the statements. -/
import Derived.Test.YtibbhpgpleeglaaGreatDoorPA6
namespace Go.Proofs.YtibbhpgpleeglaaGreatDoor

/-- The number of a sign and a size. -/
def ival (b : Bool) (v : Nat) : Int := if b then -(v : Int) else v
/-- Its sign, in the one form. -/
def neg (z : Int) : Bool := decide (z < 0)
/-- Its bytes, in the one form. -/
def mag (z : Int) : ByteArray := nstr z.natAbs
/-- How many bytes it has. -/
def bsz (z : Int) : Nat := nd 8 z.natAbs
/-- -1, 0, 1. -/
def sgn (z : Int) : Int := if z < 0 then -1 else if z = 0 then 0 else 1

theorem sval_mag (z : Int) : sval (mag z) = z.natAbs := nstr_bval _
theorem ival_mk (z : Int) : ival (neg z) (sval (mag z)) = z := by
  rw [sval_mag]; unfold ival neg; by_cases h : z < 0
  · rw [decide_eq_true h, if_pos rfl]; omega
  · rw [decide_eq_false h, if_neg (by simp)]; omega
theorem mag_size (z : Int) : (mag z).size = bsz z := nstr_size _
theorem ival_natAbs (b : Bool) (v : Nat) : (ival b v).natAbs = v := by unfold ival; split <;> omega
theorem ival_not (b : Bool) (v : Nat) : ival (!b) v = -ival b v := by cases b <;> simp [ival]
theorem ival_zero (b : Bool) : ival b 0 = 0 := by cases b <;> rfl
theorem ival_neg (b : Bool) (v : Nat) : neg (ival b v) = (b && !(v == 0)) := by
  unfold neg ival; cases b
  · simp
  · by_cases h : v = 0
    · subst h; simp
    · have : (v == 0) = false := by simpa using h
      rw [this]; simp; omega
theorem mag_ival (b : Bool) (v : Nat) : mag (ival b v) = nstr v := by unfold mag; rw [ival_natAbs]
theorem nstr_empty {v : Nat} : (nstr v).toList = [] ↔ v = 0 := by
  rw [ByteArray.toList_eq]
  constructor
  · intro h
    have h2 := nstr_bval v
    rw [h] at h2
    exact h2.symm
  · rintro rfl; rfl
theorem mag_zero : mag 0 = ⟨#[]⟩ := rfl

/- sizes -/
theorem lt_bsz (z : Int) : z.natAbs < 256 ^ bsz z := nd_lt (k := 8) (by decide) _
theorem bsz_le {z : Int} {n : Nat} (h : z.natAbs < 256 ^ n) : bsz z ≤ n := nd_le_of_lt (k := 8) (by decide) h
theorem bsz_ival (b : Bool) (s : ByteArray) : bsz (ival b (sval s)) ≤ s.size := bsz_le (by rw [ival_natAbs]; exact sval_lt s)
theorem bsz_neg (z : Int) : bsz (-z) = bsz z := by unfold bsz; rw [Int.natAbs_neg]
theorem bsz_add_le {x y : Int} {n : Nat} (hx : bsz x ≤ n) (hy : bsz y ≤ n) : bsz (x + y) ≤ n + 1 := by
  refine bsz_le ?_
  have h1 := Nat.lt_of_lt_of_le (lt_bsz x) (Nat.pow_le_pow_right (by decide) hx)
  have h2 := Nat.lt_of_lt_of_le (lt_bsz y) (Nat.pow_le_pow_right (by decide) hy)
  have h3 := Int.natAbs_add_le x y
  rw [Nat.pow_succ]; omega
theorem bsz_sub_le {x y : Int} {n : Nat} (hx : bsz x ≤ n) (hy : bsz y ≤ n) : bsz (x - y) ≤ n + 1 := by
  rw [Int.sub_eq_add_neg]; exact bsz_add_le hx (by rw [bsz_neg]; exact hy)
theorem bsz_mul_le {x y : Int} {n m : Nat} (hx : bsz x ≤ n) (hy : bsz y ≤ m) : bsz (x * y) ≤ n + m := by
  refine bsz_le ?_
  rw [Int.natAbs_mul, Nat.pow_add]
  exact Nat.mul_lt_mul'' (Nat.lt_of_lt_of_le (lt_bsz x) (Nat.pow_le_pow_right (by decide) hx)) (Nat.lt_of_lt_of_le (lt_bsz y) (Nat.pow_le_pow_right (by decide) hy))
theorem bsz_natAbs_le {x y : Int} (h : x.natAbs ≤ y.natAbs) : bsz x ≤ bsz y := nd_mono (by decide) h
theorem bsz_shl_le {x : Int} {n k : Nat} (hx : bsz x ≤ n) : bsz (x * 2 ^ k) ≤ n + k / 8 + 1 := by
  refine bsz_le ?_
  rw [Int.natAbs_mul, Int.natAbs_pow, Nat.add_assoc, Nat.pow_add]
  refine Nat.mul_lt_mul'' (Nat.lt_of_lt_of_le (lt_bsz x) (Nat.pow_le_pow_right (by decide) hx)) ?_
  rw [show (256 : Nat) = 2 ^ 8 from rfl, ← Nat.pow_mul]
  exact Nat.pow_lt_pow_right (by decide) (by omega)
theorem bsz_small {z : Int} (h : -9223372036854775808 ≤ z) (h' : z ≤ 9223372036854775807) : bsz z ≤ 8 := by
  refine bsz_le ?_
  have e : (256 : Nat) ^ 8 = 18446744073709551616 := by decide
  omega

/- sums and products -/
def sumI (f : Nat → Int) : Nat → Int | 0 => 0 | k + 1 => sumI f k + f k
def prodI (f : Nat → Int) : Nat → Int | 0 => 1 | k + 1 => prodI f k * f k
theorem bsz_sumI {f : Nat → Int} {S : Nat} (h : ∀ j, bsz (f j) ≤ S) : ∀ k, bsz (sumI f k) ≤ S + k
  | 0 => Nat.le_trans (show bsz 0 ≤ 0 by decide) (Nat.zero_le _)
  | k + 1 => bsz_add_le (bsz_sumI h k) (Nat.le_trans (h k) (Nat.le_add_right _ _))
theorem bsz_prodI {f : Nat → Int} {S : Nat} (h : ∀ j, bsz (f j) ≤ S) : ∀ k, bsz (prodI f k) ≤ S * k + 1
  | 0 => Nat.le_trans (show bsz 1 ≤ 1 by decide) (by omega)
  | k + 1 => by
    have := bsz_mul_le (bsz_prodI h k) (h k)
    rw [Nat.mul_succ]
    show bsz (prodI f k * f k) ≤ _
    omega
theorem sgn_lt {z : Int} : sgn z < 0 ↔ z < 0 := by unfold sgn; split <;> (try split) <;> omega
theorem sgn_eq {z : Int} : sgn z = 0 ↔ z = 0 := by unfold sgn; split <;> (try split) <;> omega
theorem sgn_mul (x y : Int) : sgn (x * y) = sgn x * sgn y := by
  rcases Int.lt_trichotomy x 0 with hx | hx | hx <;> rcases Int.lt_trichotomy y 0 with hy | hy | hy <;> (try subst hx) <;> (try subst hy) <;>
    (try simp only [Int.zero_mul, Int.mul_zero, show sgn 0 = 0 from rfl])
  · rw [show sgn x = -1 by unfold sgn; rw [if_pos hx], show sgn y = -1 by unfold sgn; rw [if_pos hy]]
    have := Int.mul_pos_of_neg_of_neg hx hy
    unfold sgn; rw [if_neg (by omega), if_neg (by omega)]; rfl
  · rw [show sgn x = -1 by unfold sgn; rw [if_pos hx], show sgn y = 1 by unfold sgn; rw [if_neg (by omega), if_neg (by omega)]]
    have := Int.mul_neg_of_neg_of_pos hx hy
    unfold sgn; rw [if_pos (by omega)]; rfl
  · rw [show sgn x = 1 by unfold sgn; rw [if_neg (by omega), if_neg (by omega)], show sgn y = -1 by unfold sgn; rw [if_pos hy]]
    have := Int.mul_neg_of_pos_of_neg hx hy
    unfold sgn; rw [if_pos (by omega)]; rfl
  · rw [show sgn x = 1 by unfold sgn; rw [if_neg (by omega), if_neg (by omega)], show sgn y = 1 by unfold sgn; rw [if_neg (by omega), if_neg (by omega)]]
    have := Int.mul_pos hx hy
    unfold sgn; rw [if_neg (by omega), if_neg (by omega)]; rfl

/- the quotient, from the sizes' quotient -/
theorem div_signs (a b : Bool) (u v : Nat) (hv : 0 < v) :
    (ival a u / ival b v = ival (a != b) (if a = true ∧ u % v ≠ 0 then u / v + 1 else u / v)) ∧ (ival a u % ival b v = ((if a = true ∧ u % v ≠ 0 then v - u % v else u % v : Nat) : Int)) := by
  have hm := Nat.div_add_mod u v
  have hlt := Nat.mod_lt u hv
  have key : ∀ (q r : Int), ival a u = ival b v * q + r → 0 ≤ r → r < v → ival a u / ival b v = q ∧ ival a u % ival b v = r := by
    intro q r h h1 h2
    have hb0 : ival b v ≠ 0 := by unfold ival; split <;> omega
    have e1 := Int.emod_add_mul_ediv (ival a u) (ival b v)
    have e2 := Int.emod_nonneg (ival a u) hb0
    have e3 : ival a u % ival b v < v := by
      have := Int.emod_lt (ival a u) hb0
      rw [ival_natAbs] at this; exact this
    generalize ival a u / ival b v = Q at *
    generalize ival a u % ival b v = R at *
    have hd : ival b v * (Q - q) = r - R := by rw [Int.mul_sub]; omega
    have hQ : Q - q = 0 := by
      apply Classical.byContradiction
      intro hne
      have h3 : (ival b v * (Q - q)).natAbs = v * (Q - q).natAbs := by rw [Int.natAbs_mul, ival_natAbs]
      have h4 : v * 1 ≤ v * (Q - q).natAbs := Nat.mul_le_mul_left _ (by omega)
      rw [hd] at h3
      omega
    rw [hQ, Int.mul_zero] at hd
    omega
  generalize u / v = q at *
  generalize u % v = r at *
  have hmI : (u : Int) = (v : Int) * (q : Int) + (r : Int) := by rw [← hm]; simp
  cases a
  · simp only [Bool.false_eq_true, false_and, if_false]
    cases b
    · exact key _ _ (by simp [ival]; exact hmI) (by omega) (by omega)
    · exact key _ _ (by simp [ival, Int.neg_mul, Int.mul_neg]; exact hmI) (by omega) (by omega)
  · by_cases hr : r = 0
    · simp only [hr, ne_eq, not_true, and_false, if_false]
      subst hr
      cases b
      · exact key _ _ (by simp [ival, Int.mul_neg]; omega) (by omega) (by omega)
      · exact key _ _ (by simp [ival, Int.neg_mul]; omega) (by omega) (by omega)
    · simp only [hr, ne_eq, not_false_iff, and_true, if_true]
      have e : ((v - r : Nat) : Int) = (v : Int) - r := by omega
      cases b
      · refine key _ _ ?_ (by omega) (by omega)
        rw [e]; simp [ival, Int.mul_add, Int.mul_neg]; omega
      · refine key _ _ ?_ (by omega) (by omega)
        rw [e]; simp [ival, Int.mul_add, Int.neg_mul]; omega
/-- Moved down, towards the lesser one. -/
theorem shr_signs (a : Bool) (u k : Nat) : ival a u / 2 ^ k = ival a (u / 2 ^ k) - (if a = true ∧ u % 2 ^ k ≠ 0 then 1 else 0) := by
  have h := (div_signs a false u (2 ^ k) (Nat.two_pow_pos k)).1
  have e : ival false (2 ^ k) = 2 ^ k := by simp [ival]
  rw [e] at h
  rw [h]
  cases a
  · simp [ival]
  · by_cases hr : u % 2 ^ k = 0
    · simp [ival, hr]
    · simp [ival, hr]; omega
end Go.Proofs.YtibbhpgpleeglaaGreatDoor

/- Whole numbers times powers of two: Lean's Dyadic, its one form, its sign, how large it is; no program. -/
namespace Go.Proofs.YtibbhpgpleeglaaGreatDoor
open Go

/-- m times two to the e. -/
def dy (m e : Int) : Dyadic := Dyadic.ofIntWithPrec m (-e)
/-- The odd number of the one form, and its exponent; 0, 0. -/
def dm : Dyadic → Int | .zero => 0 | .ofOdd n _ _ => n
def de : Dyadic → Int | .zero => 0 | .ofOdd _ k _ => -k
theorem dy_rat (m e : Int) : (dy m e).toRat = (m : Rat) * 2 ^ e := by
  unfold dy
  rw [Dyadic.toRat_ofIntWithPrec_eq_mul_two_pow, Int.neg_neg]
theorem dy_ext {x y : Dyadic} (h : x.toRat = y.toRat) : x = y := Dyadic.toRat_inj.1 h
theorem dy_zero (e : Int) : dy 0 e = 0 := by
  unfold dy Dyadic.ofIntWithPrec; rw [dif_pos rfl]; rfl
theorem dy_dm (x : Dyadic) : dy (dm x) (de x) = x := by
  cases x with
  | zero => exact dy_zero _
  | ofOdd n k hn => show Dyadic.ofIntWithPrec n (- -k) = _; rw [Int.neg_neg]; exact Dyadic.ofOdd_eq_ofIntWithPrec.symm
theorem dm_zero {x : Dyadic} : dm x = 0 ↔ x = 0 := by
  cases x with
  | zero => exact ⟨fun _ => rfl, fun _ => rfl⟩
  | ofOdd n k hn => exact ⟨fun h => by have h1 : n = 0 := h; subst h1; simp at hn, fun h => by cases h⟩
theorem two_ne : (2 : Rat) ≠ 0 := by decide
theorem two_pow_nat (k : Nat) : (2 : Rat) ^ (k : Int) = ((2 ^ k : Int) : Rat) := by
  rw [Rat.zpow_natCast]; simp
theorem dy_shl (m e : Int) (k : Nat) : dy (m * 2 ^ k) e = dy m (e + k) := by
  apply dy_ext
  rw [dy_rat, dy_rat, Rat.zpow_add two_ne, two_pow_nat, Rat.intCast_mul]
  grind
theorem dy_of_odd {m : Int} (e : Int) (h : m % 2 = 1) : dm (dy m e) = m ∧ de (dy m e) = e := by
  have h1 : dy m e = Dyadic.ofOdd m (-e) h := Dyadic.ofOdd_eq_ofIntWithPrec.symm
  rw [h1]
  exact ⟨rfl, Int.neg_neg e⟩
theorem tz_int {m : Int} (h : m ≠ 0) : ∃ o : Int, m = o * 2 ^ tz m.natAbs ∧ o % 2 = 1 := by
  obtain ⟨q, hq⟩ := tz_spec (v := m.natAbs) (by omega)
  generalize tz m.natAbs = t at *
  rcases Int.natAbs_eq m with h1 | h1
  · refine ⟨2 * q + 1, ?_, by omega⟩
    rw [h1, hq]; simp [Int.mul_comm]
  · refine ⟨-(2 * q + 1), ?_, by omega⟩
    rw [h1, hq, Int.neg_mul]; simp [Int.mul_comm]
theorem dm_dy {m : Int} (e : Int) (h : m ≠ 0) : dm (dy m e) = m / 2 ^ tz m.natAbs ∧ de (dy m e) = e + tz m.natAbs := by
  obtain ⟨o, ho, h2⟩ := tz_int h
  generalize tz m.natAbs = t at *
  have h3 : dy m e = dy o (e + t) := by rw [ho]; exact dy_shl o e t
  have h4 := dy_of_odd (e + t) h2
  rw [h3, h4.1, h4.2]
  refine ⟨?_, rfl⟩
  rw [ho, Int.mul_ediv_cancel _ (Int.ne_of_gt (Int.pow_pos (by decide)))]
theorem dy_add (m n e : Int) : dy m e + dy n e = dy (m + n) e := by
  apply dy_ext
  rw [Dyadic.toRat_add, dy_rat, dy_rat, dy_rat, Rat.intCast_add]; grind
theorem dy_neg (m e : Int) : -dy m e = dy (-m) e := by
  apply dy_ext
  rw [Dyadic.toRat_neg, dy_rat, dy_rat, Rat.intCast_neg]; grind
theorem dy_mul (m n e f : Int) : dy m e * dy n f = dy (m * n) (e + f) := by
  apply dy_ext
  rw [Dyadic.toRat_mul, dy_rat, dy_rat, dy_rat, Rat.intCast_mul, Rat.zpow_add two_ne]; grind
theorem dy_one : dy 1 0 = 1 := rfl
/-- The sign. -/
def dsgn (x : Dyadic) : Int := sgn (dm x)
theorem sgn_mul_pow (m : Int) (k : Nat) : sgn (m * 2 ^ k) = sgn m := by
  have h : sgn ((2 : Int) ^ k) = 1 := by
    have := Int.pow_pos (n := 2) (m := k) (by decide)
    unfold sgn; rw [if_neg (by omega), if_neg (by omega)]
  rw [sgn_mul, h, Int.mul_one]
theorem dsgn_dy (m e : Int) : dsgn (dy m e) = sgn m := by
  unfold dsgn
  by_cases h : m = 0
  · subst h; rw [dy_zero]; rfl
  · obtain ⟨o, ho, h2⟩ := tz_int h
    generalize tz m.natAbs = t at *
    rw [ho, dy_shl, (dy_of_odd (e + t) h2).1, sgn_mul_pow]
theorem dsgn_eq {x : Dyadic} : dsgn x = 0 ↔ x = 0 := by
  unfold dsgn; rw [sgn_eq, dm_zero]
/-- A multiple of 2^-L, below 2^T. -/
def DB (L T : Nat) (x : Dyadic) : Prop := ∃ k : Int, x = dy k (-(L : Int)) ∧ k.natAbs < 2 ^ (L + T)
theorem db_up {L T L' T' : Nat} {x : Dyadic} (h : DB L T x) (hL : L ≤ L') (hT : T ≤ T') : DB L' T' x := by
  obtain ⟨k, rfl, hk⟩ := h
  refine ⟨k * 2 ^ (L' - L), ?_, ?_⟩
  · rw [dy_shl]; congr 1; omega
  · rw [Int.natAbs_mul, Int.natAbs_pow]
    show k.natAbs * 2 ^ (L' - L) < _
    have h1 : k.natAbs * 2 ^ (L' - L) < 2 ^ (L + T) * 2 ^ (L' - L) := Nat.mul_lt_mul_of_pos_right hk (Nat.two_pow_pos _)
    rw [← Nat.pow_add] at h1
    exact Nat.lt_of_lt_of_le h1 (Nat.pow_le_pow_right (by decide) (by omega))
theorem db_raw {m e : Int} {L S T : Nat} (hm : m.natAbs < 2 ^ S) (h1 : -(L : Int) ≤ e) (h2 : e + S ≤ T) : DB L T (dy m e) := by
  refine ⟨m * 2 ^ (e + L).toNat, ?_, ?_⟩
  · rw [dy_shl]; congr 1; omega
  · rw [Int.natAbs_mul, Int.natAbs_pow]
    show m.natAbs * 2 ^ (e + L).toNat < _
    have h3 : m.natAbs * 2 ^ (e + L).toNat < 2 ^ S * 2 ^ (e + L).toNat := Nat.mul_lt_mul_of_pos_right hm (Nat.two_pow_pos _)
    rw [← Nat.pow_add] at h3
    exact Nat.lt_of_lt_of_le h3 (Nat.pow_le_pow_right (by decide) (by omega))
theorem db_zero (L T : Nat) : DB L T 0 := ⟨0, (dy_zero _).symm, Nat.two_pow_pos _⟩
theorem db_add {L T : Nat} {x y : Dyadic} (hx : DB L T x) (hy : DB L T y) : DB L (T + 1) (x + y) := by
  obtain ⟨k, rfl, hk⟩ := hx
  obtain ⟨j, rfl, hj⟩ := hy
  refine ⟨k + j, dy_add _ _ _, ?_⟩
  rw [← Nat.add_assoc, Nat.pow_succ]
  omega
theorem db_neg {L T : Nat} {x : Dyadic} (hx : DB L T x) : DB L T (-x) := by
  obtain ⟨k, rfl, hk⟩ := hx
  exact ⟨-k, dy_neg _ _, by rwa [Int.natAbs_neg]⟩
theorem db_mul {L T L' T' : Nat} {x y : Dyadic} (hx : DB L T x) (hy : DB L' T' y) : DB (L + L') (T + T') (x * y) := by
  obtain ⟨k, rfl, hk⟩ := hx
  obtain ⟨j, rfl, hj⟩ := hy
  refine ⟨k * j, ?_, ?_⟩
  · rw [dy_mul]; congr 1; omega
  · rw [Int.natAbs_mul, show L + L' + (T + T') = (L + T) + (L' + T') by omega, Nat.pow_add]
    rcases Nat.eq_zero_or_pos j.natAbs with h | h
    · rw [h, Nat.mul_zero]; exact Nat.mul_pos (Nat.two_pow_pos _) (Nat.two_pow_pos _)
    · exact Nat.lt_of_lt_of_le (Nat.mul_lt_mul_of_pos_right hk h) (Nat.mul_le_mul_left _ (Nat.le_of_lt hj))
/-- What the bound says of the one form. -/
theorem db_form {L T : Nat} {x : Dyadic} (hx : DB L T x) : -(L : Int) ≤ de x ∧ de x ≤ T ∧ (dm x).natAbs < 2 ^ (L + T) := by
  obtain ⟨k, rfl, hk⟩ := hx
  by_cases h : k = 0
  · subst h; rw [dy_zero]; exact ⟨by show -(L : Int) ≤ 0; omega, by show (0 : Int) ≤ T; omega, Nat.two_pow_pos _⟩
  · obtain ⟨h1, h2⟩ := dm_dy (-(L : Int)) h
    obtain ⟨o, ho, h3⟩ := tz_int h
    rw [h1, h2]
    generalize tz k.natAbs = t at *
    have h4 : k.natAbs = o.natAbs * 2 ^ t := by rw [ho, Int.natAbs_mul, Int.natAbs_pow]; rfl
    have h5 : 2 ^ t ≤ k.natAbs := by rw [h4]; exact Nat.le_mul_of_pos_left _ (by omega)
    have h6 : t < L + T := (Nat.pow_lt_pow_iff_right (by decide : 1 < 2)).1 (Nat.lt_of_le_of_lt h5 hk)
    exact ⟨by omega, by omega, Nat.lt_of_le_of_lt (Int.natAbs_ediv_le_natAbs _ _) hk⟩
theorem db_size {L T : Nat} {x : Dyadic} (hx : DB L T x) : (mag (dm x)).size ≤ (L + T) / 8 + 1 := by
  rw [mag_size]
  refine bsz_le (Nat.lt_of_lt_of_le (db_form hx).2.2 ?_)
  rw [show 256 = 2 ^ 8 from rfl, ← Nat.pow_mul]
  exact Nat.pow_le_pow_right (by decide) (by omega)
end Go.Proofs.YtibbhpgpleeglaaGreatDoor

