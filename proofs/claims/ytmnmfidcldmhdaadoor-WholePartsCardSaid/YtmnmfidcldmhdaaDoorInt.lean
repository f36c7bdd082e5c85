/- Plain arithmetic: whole numbers as a sign and bytes; no program. -/
import Derived.Test.YtmnmfidcldmhdaaDoorNatE
namespace Go.Proofs.YtmnmfidcldmhdaaDoor

/-- The number of a sign and a size. -/
def ival (b : Bool) (v : Nat) : Int := if b then -(v : Int) else v
/-- Its sign, in the one form. -/
def neg (z : Int) : Bool := decide (z < 0)
/-- Its bytes, in the one form. -/
def mag (z : Int) : ByteArray := nstr z.natAbs
/-- How many bytes it has. -/
def bsz (z : Int) : Nat := nd 8 z.natAbs
/-- -1, 0, 1. -/
def sgn (z : Int) : Int := if z < 0 then -1 else if z = 0 then 0 else 1

theorem sval_mag (z : Int) : sval (mag z) = z.natAbs := nstr_bval _
theorem ival_mk (z : Int) : ival (neg z) (sval (mag z)) = z := by
  rw [sval_mag]; unfold ival neg; by_cases h : z < 0
  · rw [decide_eq_true h, if_pos rfl]; omega
  · rw [decide_eq_false h, if_neg (by simp)]; omega
theorem mag_size (z : Int) : (mag z).size = bsz z := nstr_size _
theorem ival_natAbs (b : Bool) (v : Nat) : (ival b v).natAbs = v := by unfold ival; split <;> omega
theorem ival_not (b : Bool) (v : Nat) : ival (!b) v = -ival b v := by cases b <;> simp [ival]
theorem ival_zero (b : Bool) : ival b 0 = 0 := by cases b <;> rfl
theorem ival_neg (b : Bool) (v : Nat) : neg (ival b v) = (b && !(v == 0)) := by
  unfold neg ival; cases b
  · simp
  · by_cases h : v = 0
    · subst h; simp
    · have : (v == 0) = false := by simpa using h
      rw [this]; simp; omega
theorem mag_ival (b : Bool) (v : Nat) : mag (ival b v) = nstr v := by unfold mag; rw [ival_natAbs]
theorem nstr_zero : nstr 0 = ⟨#[]⟩ := rfl
theorem nstr_empty {v : Nat} : (nstr v).toList = [] ↔ v = 0 := by
  rw [ByteArray.toList_eq]
  constructor
  · intro h
    have h2 := nstr_bval v
    rw [h] at h2
    exact h2.symm
  · rintro rfl; rfl
theorem mk_inj {x y : Int} (h : neg x = neg y) (h' : mag x = mag y) : x = y := by
  have := ival_mk x
  rw [h, h', ival_mk] at this
  exact this.symm
theorem neg_zero : neg 0 = false := rfl
theorem mag_zero : mag 0 = ⟨#[]⟩ := rfl

/- sizes -/
theorem lt_bsz (z : Int) : z.natAbs < 256 ^ bsz z := nd_lt (k := 8) (by decide) _
theorem bsz_le {z : Int} {n : Nat} (h : z.natAbs < 256 ^ n) : bsz z ≤ n := nd_le_of_lt (k := 8) (by decide) h
theorem bsz_ival (b : Bool) (s : ByteArray) : bsz (ival b (sval s)) ≤ s.size := bsz_le (by rw [ival_natAbs]; exact sval_lt s)
theorem bsz_neg (z : Int) : bsz (-z) = bsz z := by unfold bsz; rw [Int.natAbs_neg]
theorem bsz_add_le {x y : Int} {n : Nat} (hx : bsz x ≤ n) (hy : bsz y ≤ n) : bsz (x + y) ≤ n + 1 := by
  refine bsz_le ?_
  have h1 := Nat.lt_of_lt_of_le (lt_bsz x) (Nat.pow_le_pow_right (by decide) hx)
  have h2 := Nat.lt_of_lt_of_le (lt_bsz y) (Nat.pow_le_pow_right (by decide) hy)
  have h3 := Int.natAbs_add_le x y
  rw [Nat.pow_succ]; omega
theorem bsz_sub_le {x y : Int} {n : Nat} (hx : bsz x ≤ n) (hy : bsz y ≤ n) : bsz (x - y) ≤ n + 1 := by
  rw [Int.sub_eq_add_neg]; exact bsz_add_le hx (by rw [bsz_neg]; exact hy)
theorem bsz_mul_le {x y : Int} {n m : Nat} (hx : bsz x ≤ n) (hy : bsz y ≤ m) : bsz (x * y) ≤ n + m := by
  refine bsz_le ?_
  rw [Int.natAbs_mul, Nat.pow_add]
  exact Nat.mul_lt_mul'' (Nat.lt_of_lt_of_le (lt_bsz x) (Nat.pow_le_pow_right (by decide) hx)) (Nat.lt_of_lt_of_le (lt_bsz y) (Nat.pow_le_pow_right (by decide) hy))
theorem bsz_pow_le {x : Int} {n : Nat} (hx : bsz x ≤ n) : ∀ k : Nat, bsz (x ^ k) ≤ n * k + 1
  | 0 => by rw [Int.pow_zero]; exact Nat.le_trans (show bsz 1 ≤ 1 by decide) (by omega)
  | k + 1 => by
    rw [Int.pow_succ, Nat.mul_succ]
    have := bsz_mul_le (bsz_pow_le hx k) hx
    omega
theorem bsz_natAbs_le {x y : Int} (h : x.natAbs ≤ y.natAbs) : bsz x ≤ bsz y := nd_mono (by decide) h
theorem bsz_shl_le {x : Int} {n k : Nat} (hx : bsz x ≤ n) : bsz (x * 2 ^ k) ≤ n + k / 8 + 1 := by
  refine bsz_le ?_
  rw [Int.natAbs_mul, Int.natAbs_pow, Nat.add_assoc, Nat.pow_add]
  refine Nat.mul_lt_mul'' (Nat.lt_of_lt_of_le (lt_bsz x) (Nat.pow_le_pow_right (by decide) hx)) ?_
  rw [show (256 : Nat) = 2 ^ 8 from rfl, ← Nat.pow_mul]
  exact Nat.pow_lt_pow_right (by decide) (by omega)
theorem bsz_small {z : Int} (h : -9223372036854775808 ≤ z) (h' : z ≤ 9223372036854775807) : bsz z ≤ 8 := by
  refine bsz_le ?_
  have e : (256 : Nat) ^ 8 = 18446744073709551616 := by decide
  omega

/- sums and products -/
def sumI (f : Nat → Int) : Nat → Int | 0 => 0 | k + 1 => sumI f k + f k
def prodI (f : Nat → Int) : Nat → Int | 0 => 1 | k + 1 => prodI f k * f k
theorem bsz_sumI {f : Nat → Int} {S : Nat} (h : ∀ j, bsz (f j) ≤ S) : ∀ k, bsz (sumI f k) ≤ S + k
  | 0 => Nat.le_trans (show bsz 0 ≤ 0 by decide) (Nat.zero_le _)
  | k + 1 => bsz_add_le (bsz_sumI h k) (Nat.le_trans (h k) (Nat.le_add_right _ _))
theorem bsz_prodI {f : Nat → Int} {S : Nat} (h : ∀ j, bsz (f j) ≤ S) : ∀ k, bsz (prodI f k) ≤ S * k + 1
  | 0 => Nat.le_trans (show bsz 1 ≤ 1 by decide) (by omega)
  | k + 1 => by
    have := bsz_mul_le (bsz_prodI h k) (h k)
    rw [Nat.mul_succ]
    show bsz (prodI f k * f k) ≤ _
    omega
theorem sumI_congr {f g : Nat → Int} : ∀ {n : Nat}, (∀ j, j < n → f j = g j) → sumI f n = sumI g n
  | 0, _ => rfl
  | n + 1, h => by show sumI f n + f n = sumI g n + g n; rw [sumI_congr (fun j hj => h j (by omega)), h n (by omega)]
theorem prodI_congr {f g : Nat → Int} : ∀ {n : Nat}, (∀ j, j < n → f j = g j) → prodI f n = prodI g n
  | 0, _ => rfl
  | n + 1, h => by show prodI f n * f n = prodI g n * g n; rw [prodI_congr (fun j hj => h j (by omega)), h n (by omega)]
theorem sgn_lt {z : Int} : sgn z < 0 ↔ z < 0 := by unfold sgn; split <;> (try split) <;> omega
theorem sgn_eq {z : Int} : sgn z = 0 ↔ z = 0 := by unfold sgn; split <;> (try split) <;> omega
theorem sgn_gt {z : Int} : 0 < sgn z ↔ 0 < z := by unfold sgn; split <;> (try split) <;> omega
theorem sgn_bd (z : Int) : -1 ≤ sgn z ∧ sgn z ≤ 1 := by unfold sgn; split <;> (try split) <;> omega
theorem sgn_neg (z : Int) : sgn (-z) = -sgn z := by unfold sgn; split <;> split <;> (try split) <;> (try split) <;> omega
theorem sgn_mul (x y : Int) : sgn (x * y) = sgn x * sgn y := by
  rcases Int.lt_trichotomy x 0 with hx | hx | hx <;> rcases Int.lt_trichotomy y 0 with hy | hy | hy <;> (try subst hx) <;> (try subst hy) <;>
    (try simp only [Int.zero_mul, Int.mul_zero, show sgn 0 = 0 from rfl])
  · rw [show sgn x = -1 by unfold sgn; rw [if_pos hx], show sgn y = -1 by unfold sgn; rw [if_pos hy]]
    have := Int.mul_pos_of_neg_of_neg hx hy
    unfold sgn; rw [if_neg (by omega), if_neg (by omega)]; rfl
  · rw [show sgn x = -1 by unfold sgn; rw [if_pos hx], show sgn y = 1 by unfold sgn; rw [if_neg (by omega), if_neg (by omega)]]
    have := Int.mul_neg_of_neg_of_pos hx hy
    unfold sgn; rw [if_pos (by omega)]; rfl
  · rw [show sgn x = 1 by unfold sgn; rw [if_neg (by omega), if_neg (by omega)], show sgn y = -1 by unfold sgn; rw [if_pos hy]]
    have := Int.mul_neg_of_pos_of_neg hx hy
    unfold sgn; rw [if_pos (by omega)]; rfl
  · rw [show sgn x = 1 by unfold sgn; rw [if_neg (by omega), if_neg (by omega)], show sgn y = 1 by unfold sgn; rw [if_neg (by omega), if_neg (by omega)]]
    have := Int.mul_pos hx hy
    unfold sgn; rw [if_neg (by omega), if_neg (by omega)]; rfl

/- the quotient, from the sizes' quotient -/
theorem div_signs (a b : Bool) (u v : Nat) (hv : 0 < v) :
    (ival a u / ival b v = ival (a != b) (if a = true ∧ u % v ≠ 0 then u / v + 1 else u / v)) ∧ (ival a u % ival b v = ((if a = true ∧ u % v ≠ 0 then v - u % v else u % v : Nat) : Int)) := by
  have hm := Nat.div_add_mod u v
  have hlt := Nat.mod_lt u hv
  have key : ∀ (q r : Int), ival a u = ival b v * q + r → 0 ≤ r → r < v → ival a u / ival b v = q ∧ ival a u % ival b v = r := by
    intro q r h h1 h2
    have hb0 : ival b v ≠ 0 := by unfold ival; split <;> omega
    have e1 := Int.emod_add_mul_ediv (ival a u) (ival b v)
    have e2 := Int.emod_nonneg (ival a u) hb0
    have e3 : ival a u % ival b v < v := by
      have := Int.emod_lt (ival a u) hb0
      rw [ival_natAbs] at this; exact this
    generalize ival a u / ival b v = Q at *
    generalize ival a u % ival b v = R at *
    have hd : ival b v * (Q - q) = r - R := by rw [Int.mul_sub]; omega
    have hQ : Q - q = 0 := by
      apply Classical.byContradiction
      intro hne
      have h3 : (ival b v * (Q - q)).natAbs = v * (Q - q).natAbs := by rw [Int.natAbs_mul, ival_natAbs]
      have h4 : v * 1 ≤ v * (Q - q).natAbs := Nat.mul_le_mul_left _ (by omega)
      rw [hd] at h3
      omega
    rw [hQ, Int.mul_zero] at hd
    omega
  generalize u / v = q at *
  generalize u % v = r at *
  have hmI : (u : Int) = (v : Int) * (q : Int) + (r : Int) := by rw [← hm]; simp
  cases a
  · simp only [Bool.false_eq_true, false_and, if_false]
    cases b
    · exact key _ _ (by simp [ival]; exact hmI) (by omega) (by omega)
    · exact key _ _ (by simp [ival, Int.neg_mul, Int.mul_neg]; exact hmI) (by omega) (by omega)
  · by_cases hr : r = 0
    · simp only [hr, ne_eq, not_true, and_false, if_false]
      subst hr
      cases b
      · exact key _ _ (by simp [ival, Int.mul_neg]; omega) (by omega) (by omega)
      · exact key _ _ (by simp [ival, Int.neg_mul]; omega) (by omega) (by omega)
    · simp only [hr, ne_eq, not_false_iff, and_true, if_true]
      have e : ((v - r : Nat) : Int) = (v : Int) - r := by omega
      cases b
      · refine key _ _ ?_ (by omega) (by omega)
        rw [e]; simp [ival, Int.mul_add, Int.mul_neg]; omega
      · refine key _ _ ?_ (by omega) (by omega)
        rw [e]; simp [ival, Int.mul_add, Int.neg_mul]; omega
/-- Moved down, towards the lesser one. -/
theorem shr_signs (a : Bool) (u k : Nat) : ival a u / 2 ^ k = ival a (u / 2 ^ k) - (if a = true ∧ u % 2 ^ k ≠ 0 then 1 else 0) := by
  have h := (div_signs a false u (2 ^ k) (Nat.two_pow_pos k)).1
  have e : ival false (2 ^ k) = 2 ^ k := by simp [ival]
  rw [e] at h
  rw [h]
  cases a
  · simp [ival]
  · by_cases hr : u % 2 ^ k = 0
    · simp [ival, hr]
    · simp [ival, hr]; omega
end Go.Proofs.YtmnmfidcldmhdaaDoor
