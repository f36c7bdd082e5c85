/- Plain arithmetic: the division of two words by one (math/bits.Div64), and a digit of a long division. -/
import Derived.Test.YtmnmfidcldmhdaaDoorMem
namespace Go.Proofs.YtmnmfidcldmhdaaDoor
open Go.RowKit

/-- 2^32, 2^64, behind names. -/
def B32 : Nat := 4294967296
theorem B32_eq : B32 = 4294967296 := rfl

/-- What holds of a guess q and its rest r, ahead of each correction. -/
structure Guess (u u1 y1 y0 q r : Nat) : Prop where
  eq : q * y1 + r = u
  ge : (u * B32 + u1) / (y1 * B32 + y0) ≤ q
  rlt : r < B32
  qle : q ≤ B32 + 1

theorem guess_start {u u1 y1 y0 : Nat} (h1 : 2147483648 ≤ y1) (h2 : y1 < B32) (h0 : y0 < B32) (hu : u < y1 * B32 + y0) (hu1 : u1 < B32) : Guess u u1 y1 y0 (u / y1) (u % y1) := by
  have hp : 0 < y1 := by omega
  have hm := Nat.mod_lt u hp
  have he := Nat.div_add_mod u y1
  refine ⟨by rw [Nat.mul_comm]; exact he, ?_, by omega, ?_⟩
  · apply Nat.le_of_lt_succ
    rw [Nat.div_lt_iff_lt_mul (by have : 0 < y1 * B32 := Nat.mul_pos hp (by decide)
                                  omega)]
    have h3 : (u / y1 + 1) * y1 * B32 ≤ (u / y1 + 1) * (y1 * B32 + y0) := by rw [Nat.mul_assoc]; exact Nat.mul_le_mul_left _ (by omega)
    have h4 : u + 1 ≤ (u / y1 + 1) * y1 := by rw [Nat.add_mul, Nat.one_mul, Nat.mul_comm]; omega
    have h5 : (u + 1) * B32 ≤ (u / y1 + 1) * y1 * B32 := Nat.mul_le_mul_right _ h4
    rw [Nat.add_mul, Nat.one_mul] at h5
    show _ < (u / y1 + 1) * _
    omega
  · rw [← Nat.lt_add_one_iff, Nat.div_lt_iff_lt_mul hp]
    simp only [B32_eq] at *
    omega

/-- The test fails: the guess is the digit. -/
theorem guess_done {u u1 y1 y0 q r : Nat} (g : Guess u u1 y1 y0 q r) (hy : 0 < y1 * B32 + y0) (ht : q * y0 ≤ B32 * r + u1) : q = (u * B32 + u1) / (y1 * B32 + y0) := by
  refine Nat.le_antisymm ?_ g.ge
  rw [Nat.le_div_iff_mul_le hy, Nat.mul_add, ← Nat.mul_assoc]
  have h := g.eq
  have h2 : u * B32 = q * y1 * B32 + r * B32 := by rw [← h, Nat.add_mul]
  rw [Nat.mul_comm B32] at ht
  omega
/-- The test holds: one less. -/
theorem guess_step {u u1 y1 y0 q r : Nat} (g : Guess u u1 y1 y0 q r) (_h0 : y0 < B32) (hu : u < y1 * B32 + y0) (hu1 : u1 < B32) (ht : B32 ≤ q ∨ B32 * r + u1 < q * y0) :
    0 < q ∧ (u * B32 + u1) / (y1 * B32 + y0) ≤ q - 1 ∧ (q - 1) * y1 + (r + y1) = u := by
  have hy : 0 < y1 * B32 + y0 := by omega
  have hq : (u * B32 + u1) / (y1 * B32 + y0) < q := by
    rcases ht with ht | ht
    · refine Nat.lt_of_lt_of_le ?_ ht
      rw [Nat.div_lt_iff_lt_mul hy]
      have : (u + 1) * B32 ≤ B32 * (y1 * B32 + y0) := by rw [Nat.mul_comm]; exact Nat.mul_le_mul_left _ hu
      rw [Nat.add_mul, Nat.one_mul] at this
      omega
    · rw [Nat.div_lt_iff_lt_mul hy, Nat.mul_add, ← Nat.mul_assoc]
      have h2 : u * B32 = q * y1 * B32 + r * B32 := by rw [← g.eq, Nat.add_mul]
      rw [Nat.mul_comm B32] at ht
      omega
  refine ⟨Nat.lt_of_le_of_lt (Nat.zero_le _) hq, Nat.le_sub_one_of_lt hq, ?_⟩
  have hq0 : 0 < q := Nat.lt_of_le_of_lt (Nat.zero_le _) hq
  clear hq
  have h := g.eq
  obtain ⟨p, rfl⟩ : ∃ p, q = p + 1 := ⟨q - 1, by omega⟩
  rw [Nat.add_sub_cancel]
  rw [Nat.add_mul] at h
  omega
/-- Behind a step the rest is still short: the guess goes on. -/
theorem guess_next {u u1 y1 y0 q r : Nat} (g : Guess u u1 y1 y0 q r) (h0 : y0 < B32) (hu : u < y1 * B32 + y0) (hu1 : u1 < B32) (ht : B32 ≤ q ∨ B32 * r + u1 < q * y0) (hr : r + y1 < B32) :
    Guess u u1 y1 y0 (q - 1) (r + y1) := by
  obtain ⟨_, h2, h3⟩ := guess_step g h0 hu hu1 ht
  exact ⟨h3, h2, hr, by have := g.qle; omega⟩
/-- Behind a step the rest is long: the guess is the digit. -/
theorem guess_end {u u1 y1 y0 q r : Nat} (g : Guess u u1 y1 y0 q r) (h0 : y0 < B32) (hu : u < y1 * B32 + y0) (hu1 : u1 < B32) (ht : B32 ≤ q ∨ B32 * r + u1 < q * y0) (hr : B32 ≤ r + y1) :
    q - 1 = (u * B32 + u1) / (y1 * B32 + y0) := by
  obtain ⟨h1, h2, h3⟩ := guess_step g h0 hu hu1 ht
  refine Nat.le_antisymm ?_ h2
  rw [Nat.le_div_iff_mul_le (by omega), Nat.mul_add, ← Nat.mul_assoc]
  have e : u * B32 = (q - 1) * y1 * B32 + (r + y1) * B32 := by rw [← h3, Nat.add_mul]
  have hq := g.qle
  have h4 : (q - 1) * y0 ≤ B32 * B32 := Nat.mul_le_mul (by omega) (Nat.le_of_lt h0)
  have h5 : B32 * B32 ≤ (r + y1) * B32 := Nat.mul_le_mul_right _ hr
  omega
/-- Two digits make the quotient. -/
theorem two_digits (u u1 u0 y : Nat) (hy : 0 < y) : (u * B32 + u1) / y * B32 + ((u * B32 + u1) % y * B32 + u0) / y = ((u * B32 + u1) * B32 + u0) / y := by
  have h := Nat.div_add_mod (u * B32 + u1) y
  generalize (u * B32 + u1) / y = t at *
  generalize (u * B32 + u1) % y = r at *
  rw [← h]
  have e : (y * t + r) * B32 + u0 = (r * B32 + u0) + y * (t * B32) := by rw [Nat.add_mul, Nat.mul_assoc]; omega
  rw [e, Nat.add_mul_div_left _ _ hy, Nat.add_comm]
/-- D less its multiple of y, reckoned below 2^64. -/
theorem rest_wrap {u u1 y q : Nat} (hq : q = (u * B32 + u1) / y) (hy : 0 < y) (hy2 : y < LB) :
    IntKind.u64.wrap (IntKind.u64.wrap (IntKind.u64.wrap ((u : Int) * 4294967296) + (u1 : Int)) - IntKind.u64.wrap ((q : Int) * (y : Int))) = (((u * B32 + u1) % y : Nat) : Int) := by
  have h := Nat.div_add_mod (u * B32 + u1) y
  have hr := Nat.mod_lt (u * B32 + u1) hy
  rw [← hq] at h
  have e : ((q : Int) * (y : Int)) = ((y * q : Nat) : Int) := by rw [Nat.mul_comm, Int.natCast_mul]
  rw [e]
  generalize y * q = p at *
  generalize (u * B32 + u1) % y = r at *
  simp only [IntKind.wrap_u64]
  rw [B32_eq] at h
  rw [LB_eq] at hy2
  omega
/-- The high word set: no shift. -/
theorem bitLen_top {y : Nat} (h : 9223372036854775808 ≤ y) (h2 : y < LB) : Lib.bitLen y = 64 := by
  rw [bitLen_nd y h2]
  exact nd_eq (k := 1) (by decide) (by rw [Nat.pow_one]; exact h2) (fun _ => by rw [Nat.pow_one]; exact h)

/-- The wraps of a round: none. -/
theorem guess_wraps {u u1 y1 y0 q r : Nat} (g : Guess u u1 y1 y0 q r) (h1 : y1 < 4294967296) (h0 : y0 < 4294967296) (hu1 : u1 < 4294967296) :
    IntKind.u64.wrap ((r : Int) + (y1 : Int)) = ((r + y1 : Nat) : Int) ∧ IntKind.u64.wrap (4294967296 * (r : Int)) = ((B32 * r : Nat) : Int) ∧ IntKind.u64.wrap (((B32 * r : Nat) : Int) + (u1 : Int)) = ((B32 * r + u1 : Nat) : Int) ∧
      (q < 4294967296 → IntKind.u64.wrap ((q : Int) * (y0 : Int)) = ((q * y0 : Nat) : Int)) ∧ (0 < q → IntKind.u64.wrap ((q : Int) - 1) = ((q - 1 : Nat) : Int)) := by
  have hr := g.rlt
  have hq := g.qle
  simp only [IntKind.wrap_u64]
  simp only [B32_eq] at *
  refine ⟨by omega, by omega, by omega, fun h => ?_, fun h => by omega⟩
  have h2 : q * y0 ≤ 4294967295 * 4294967295 := Nat.mul_le_mul (by omega) (by omega)
  rw [← Int.natCast_mul]
  generalize q * y0 = p at *
  omega
/- A DIGIT OF A LONG DIVISION -/
/-- The guess out of the highest limbs is not below the digit. -/
theorem guess_ge {R by_ n top next bt : Nat} (hR : R = R % LB ^ n + LB ^ n * (next + LB * top)) (hb : bt * LB ^ n ≤ by_) (hbt : 0 < bt) : R / by_ ≤ (top * LB + next) / bt := by
  have hp := Nat.pow_pos (n := n) LB_pos
  have hm := Nat.mod_lt R hp
  have hby : 0 < by_ := Nat.lt_of_lt_of_le (Nat.mul_pos hbt hp) hb
  rw [Nat.le_div_iff_mul_le hbt]
  apply Nat.le_of_lt_succ
  apply Nat.lt_of_mul_lt_mul_right (a := LB ^ n)
  calc R / by_ * bt * LB ^ n = R / by_ * (bt * LB ^ n) := Nat.mul_assoc _ _ _
    _ ≤ R / by_ * by_ := Nat.mul_le_mul_left _ hb
    _ ≤ R := Nat.div_mul_le_self _ _
    _ < (top * LB + next).succ * LB ^ n := by
      rw [Nat.succ_mul]
      conv => lhs; rw [hR]
      rw [Nat.mul_comm (LB ^ n), Nat.mul_comm LB top, Nat.add_comm next]
      omega
/-- What the two highest limbs are. -/
theorem top_facts {X Y at_ nb : Nat} (hnb : 0 < nb) (hX : X < Y * LB ^ (at_ + 1)) (hY : LB ^ (nb - 1) * 9223372036854775808 ≤ Y) (hY2 : Y < LB ^ nb) :
    X / LB ^ at_ < Y * LB ∧ X / LB ^ at_ < LB ^ (nb + 1) ∧ 9223372036854775808 ≤ dgt LB Y (nb - 1) ∧
      (dgt LB X (at_ + nb) < dgt LB Y (nb - 1) → X / LB ^ at_ / Y ≤ (dgt LB X (at_ + nb) * LB + dgt LB X (at_ + nb - 1)) / dgt LB Y (nb - 1) ∧ (dgt LB X (at_ + nb) * LB + dgt LB X (at_ + nb - 1)) / dgt LB Y (nb - 1) < LB) ∧
      X / LB ^ at_ / Y < LB ∧ 0 < Y := by
  have hp := Nat.pow_pos (n := at_) LB_pos
  have hpn := Nat.pow_pos (n := nb - 1) LB_pos
  have hY0 : 0 < Y := Nat.lt_of_lt_of_le (Nat.mul_pos hpn (by decide)) hY
  have h1 : X / LB ^ at_ < Y * LB := by
    rw [Nat.div_lt_iff_lt_mul hp, Nat.mul_assoc, Nat.mul_comm LB, ← Nat.pow_succ]; exact hX
  have h2 : X / LB ^ at_ < LB ^ (nb + 1) := Nat.lt_of_lt_of_le h1 (by rw [Nat.pow_succ]; exact Nat.mul_le_mul_right _ (Nat.le_of_lt hY2))
  have hbt : dgt LB Y (nb - 1) = Y / LB ^ (nb - 1) := by
    unfold dgt
    refine Nat.mod_eq_of_lt ?_
    rw [Nat.div_lt_iff_lt_mul hpn, Nat.mul_comm, ← Nat.pow_succ, show (nb - 1).succ = nb by omega]; exact hY2
  have h3 : 9223372036854775808 ≤ dgt LB Y (nb - 1) := by
    rw [hbt, Nat.le_div_iff_mul_le hpn, Nat.mul_comm]; exact hY
  refine ⟨h1, h2, h3, fun hlt => ⟨?_, ?_⟩, ?_, hY0⟩
  · have e1 : dgt LB X (at_ + nb) = dgt LB (X / LB ^ at_) (nb - 1 + 1) := by rw [dgt_div]; congr 1; omega
    have e2 : dgt LB X (at_ + nb - 1) = dgt LB (X / LB ^ at_) (nb - 1) := by rw [dgt_div]; congr 1; omega
    rw [e1, e2]
    refine guess_ge (n := nb - 1) (top := dgt LB (X / LB ^ at_) (nb - 1 + 1)) (next := dgt LB (X / LB ^ at_) (nb - 1)) ?_ ?_ (by omega)
    · have hs := split3 LB (X / LB ^ at_) (nb - 1)
      have e3 : X / LB ^ at_ / LB ^ (nb - 1 + 1) = dgt LB (X / LB ^ at_) (nb - 1 + 1) := by
        unfold dgt
        refine (Nat.mod_eq_of_lt ?_).symm
        rw [Nat.div_lt_iff_lt_mul (Nat.pow_pos LB_pos), Nat.mul_comm, ← Nat.pow_succ, show (nb - 1 + 1).succ = nb + 1 by omega]; exact h2
      rw [e3] at hs
      exact hs
    · rw [hbt]; exact Nat.div_mul_le_self _ _
  · rw [Nat.div_lt_iff_lt_mul (by omega)]
    have h4 := dgt_lt LB_pos X (at_ + nb - 1)
    have h5 : (dgt LB X (at_ + nb) + 1) * LB ≤ dgt LB Y (nb - 1) * LB := Nat.mul_le_mul_right _ hlt
    rw [Nat.add_mul, Nat.one_mul] at h5
    rw [Nat.mul_comm LB]
    omega
  · rw [Nat.div_lt_iff_lt_mul hY0, Nat.mul_comm]; exact h1
/-- The rest behind a digit. -/
theorem dgt_rest {X at_ nb Z j : Nat} (hX : X < LB ^ (at_ + nb + 1)) (hZ : Z ≤ X / LB ^ at_) :
    dgt LB (X - LB ^ at_ * Z) j = if at_ ≤ j ∧ j < at_ + (nb + 1) then dgt LB (X / LB ^ at_ - Z) (j - at_) else dgt LB X j := by
  have e : X - LB ^ at_ * Z = X % LB ^ at_ + LB ^ at_ * (X / LB ^ at_ - Z) := by
    have h := Nat.mod_add_div X (LB ^ at_)
    have h2 : LB ^ at_ * Z ≤ LB ^ at_ * (X / LB ^ at_) := Nat.mul_le_mul_left _ hZ
    rw [Nat.mul_sub]
    generalize X % LB ^ at_ = a at *
    generalize LB ^ at_ * (X / LB ^ at_) = b at *
    generalize LB ^ at_ * Z = c at *
    omega
  have hlt : X % LB ^ at_ < LB ^ at_ := Nat.mod_lt _ (Nat.pow_pos LB_pos)
  by_cases h : at_ ≤ j ∧ j < at_ + (nb + 1)
  · rw [if_pos h, e]
    obtain ⟨i, rfl⟩ : ∃ i, j = at_ + i := ⟨j - at_, by omega⟩
    rw [dgt_add_ge LB_pos, Nat.div_eq_of_lt hlt, Nat.zero_add, Nat.add_sub_cancel_left]
  · rw [if_neg h]
    by_cases h2 : j < at_
    · rw [e, dgt_add_lt h2, dgt_mod h2]
    · rw [dgt_big' LB_pos hX (by omega), dgt_big' LB_pos (Nat.lt_of_le_of_lt (Nat.sub_le _ _) hX) (by omega)]
/-- The divisor moved up until its highest bit is set. -/
theorem norm_facts {v : Nat} (h : v ≠ 0) :
    0 < nd 1 (dgt LB v (nd 64 v - 1)) ∧ nd 1 (dgt LB v (nd 64 v - 1)) ≤ 64 ∧ LB ^ (nd 64 v - 1) * 9223372036854775808 ≤ v * 2 ^ (64 - nd 1 (dgt LB v (nd 64 v - 1))) ∧ v * 2 ^ (64 - nd 1 (dgt LB v (nd 64 v - 1))) < LB ^ nd 64 v := by
  have h0 : dgt LB v (nd 64 v - 1) ≠ 0 := dgt_top (k := 64) (by decide) h
  have h1 := nd_pos (k := 1) h0
  have h2 : nd 1 (dgt LB v (nd 64 v - 1)) ≤ 64 := nd_le_of_lt (by decide) (by rw [Nat.pow_one]; exact dgt_lt LB_pos _ _)
  have h3 := nd1_top h
  have h4 := nd_lt (k := 1) (by decide) v
  have h5 := nd_le (k := 1) v h
  have h6 := nd_pos (k := 64) h
  simp only [Nat.pow_one] at h4 h5
  generalize nd 1 (dgt LB v (nd 64 v - 1)) = b at *
  rw [h3] at h4 h5
  refine ⟨h1, h2, ?_, ?_⟩
  · have e : LB ^ (nd 64 v - 1) * 9223372036854775808 = 2 ^ (64 * (nd 64 v - 1) + b - 1) * 2 ^ (64 - b) := by
      rw [LB_pow, pow2_pow, show 9223372036854775808 = 2 ^ 63 from rfl, ← Nat.pow_add, ← Nat.pow_add]; congr 1; omega
    rw [e]; exact Nat.mul_le_mul_right _ h5
  · have e : LB ^ nd 64 v = 2 ^ (64 * (nd 64 v - 1) + b) * 2 ^ (64 - b) := by
      rw [LB_pow, pow2_pow, ← Nat.pow_add]; congr 1; omega
    rw [e]; exact Nat.mul_lt_mul_of_pos_right h4 (Nat.two_pow_pos _)
/-- A digit more of the quotient, and what is left. -/
theorem quo_digit (U Y p : Nat) : U % (Y * LB ^ (p + 1)) / LB ^ p / Y = dgt LB (U / Y) p := by
  unfold dgt
  rw [Nat.div_div_eq_div_mul, Nat.div_div_eq_div_mul, Nat.mul_comm (LB ^ p), Nat.pow_succ, ← Nat.mul_assoc, Nat.mod_mul_right_div_self]
theorem quo_rest (U Y p : Nat) : U % (Y * LB ^ (p + 1)) - LB ^ p * (Y * dgt LB (U / Y) p) = U % (Y * LB ^ p) := by
  have h := Nat.mod_mod_of_dvd U (show Y * LB ^ p ∣ Y * LB ^ (p + 1) from ⟨LB, by rw [Nat.pow_succ, Nat.mul_assoc]⟩)
  rw [← quo_digit]
  generalize U % (Y * LB ^ (p + 1)) = X at *
  rw [← h, Nat.div_div_eq_div_mul]
  have h2 := Nat.div_add_mod X (Y * LB ^ p)
  rw [Nat.mul_comm (LB ^ p) Y, ← Nat.mul_assoc, Nat.mul_comm (LB ^ p) Y]
  omega
end Go.Proofs.YtmnmfidcldmhdaaDoor
