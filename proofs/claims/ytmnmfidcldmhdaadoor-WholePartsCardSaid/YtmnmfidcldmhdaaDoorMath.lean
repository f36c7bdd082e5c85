/- Plain arithmetic: the digits of a number to a base; no program. -/
import Derived.Below
import Derived.Lib.BitFns
import Derived.Lib.TrailingZeros
namespace Go.Proofs.YtmnmfidcldmhdaaDoor

/-- The base of a limb. -/
def LB : Nat := 18446744073709551616
theorem LB_eq : LB = 18446744073709551616 := rfl
theorem LB_pow : LB = 2 ^ 64 := rfl
theorem LB_pos : 0 < LB := by decide

/-- The digit at place j of v to the base B. -/
def dgt (B v j : Nat) : Nat := v / B ^ j % B
theorem dgt_lt {B : Nat} (h : 0 < B) (v j : Nat) : dgt B v j < B := Nat.mod_lt _ h
theorem dgt_zero (B j : Nat) : dgt B 0 j = 0 := by simp [dgt]
theorem dgt_big {B v j : Nat} (h : v < B ^ j) : dgt B v j = 0 := by
  unfold dgt; rw [Nat.div_eq_of_lt h]; simp
theorem dgt_big' {B v n j : Nat} (hB : 0 < B) (h : v < B ^ n) (hj : n ≤ j) : dgt B v j = 0 :=
  dgt_big (Nat.lt_of_lt_of_le h (Nat.pow_le_pow_right hB hj))

theorem mod_succ (B v k : Nat) : v % B ^ (k + 1) = v % B ^ k + B ^ k * dgt B v k := by
  unfold dgt
  rw [Nat.pow_succ, Nat.mod_mul]

/-- v below its digit at place k, the digit, and above. -/
theorem split3 (B v k : Nat) : v = v % B ^ k + B ^ k * (dgt B v k + B * (v / B ^ (k + 1))) := by
  have h1 := Nat.mod_add_div v (B ^ k)
  have h2 := Nat.mod_add_div (v / B ^ k) B
  rw [Nat.div_div_eq_div_mul, ← Nat.pow_succ] at h2
  have h2' : dgt B v k + B * (v / B ^ (k + 1)) = v / B ^ k := h2
  rw [h2']
  exact h1.symm

theorem dgt_mod {B v n j : Nat} (h : j < n) : dgt B (v % B ^ n) j = dgt B v j := by
  unfold dgt
  obtain ⟨d, rfl⟩ : ∃ d, n = j + (d + 1) := ⟨n - j - 1, by omega⟩
  rw [Nat.pow_add, Nat.mod_mul_right_div_self, Nat.pow_succ, Nat.mul_comm (B ^ d), Nat.mod_mul_right_mod]

/-- A number below B^n is known by its n lowest digits. -/
theorem dgt_ext {B : Nat} : ∀ {n u v : Nat}, u < B ^ n → v < B ^ n → (∀ j, j < n → dgt B u j = dgt B v j) → u = v := by
  intro n
  induction n with
  | zero => intro u v hu hv _; simp at hu hv; omega
  | succ n ih =>
    intro u v hu hv h
    have hu' : u % B ^ (n + 1) = u := Nat.mod_eq_of_lt hu
    have hv' : v % B ^ (n + 1) = v := Nat.mod_eq_of_lt hv
    rw [mod_succ] at hu' hv'
    by_cases hB : B = 0
    · subst hB; simp at hu
    have hp : 0 < B ^ n := Nat.pow_pos (Nat.pos_of_ne_zero hB)
    have e : u % B ^ n = v % B ^ n := ih (Nat.mod_lt _ hp) (Nat.mod_lt _ hp) fun j hj => by
      rw [dgt_mod hj, dgt_mod hj]; exact h j (by omega)
    rw [← hu', ← hv', e, h n (by omega)]

theorem dgt_div (B v n j : Nat) : dgt B (v / B ^ n) j = dgt B v (n + j) := by
  unfold dgt
  rw [Nat.div_div_eq_div_mul, ← Nat.pow_add]
theorem dgt_mul_pow_ge (B v n j : Nat) (hB : 0 < B) : dgt B (B ^ n * v) (n + j) = dgt B v j := by
  unfold dgt
  rw [Nat.pow_add, Nat.mul_div_mul_left _ _ (Nat.pow_pos hB)]
theorem dgt_mul_pow_lt (B v n j : Nat) (h : j < n) (hB : 0 < B) : dgt B (B ^ n * v) j = 0 := by
  unfold dgt
  obtain ⟨d, rfl⟩ : ∃ d, n = j + (d + 1) := ⟨n - j - 1, by omega⟩
  rw [Nat.pow_add, Nat.mul_assoc, Nat.mul_div_cancel_left _ (Nat.pow_pos hB), Nat.pow_succ, Nat.mul_comm (B ^ d), Nat.mul_assoc, Nat.mul_mod_right]
/-- low part below B^k, and a digit d at k: the digits. -/
theorem dgt_put {B u d k : Nat} (hB : 0 < B) (hu : u < B ^ k) (hd : d < B) (j : Nat) :
    dgt B (u + B ^ k * d) j = if j < k then dgt B u j else if j = k then d else 0 := by
  by_cases h : j < k
  · rw [if_pos h, ← dgt_mod h, Nat.add_mul_mod_self_left, dgt_mod h]
  · rw [if_neg h]
    by_cases e : j = k
    · subst e
      rw [if_pos rfl]
      unfold dgt
      rw [Nat.add_mul_div_left _ _ (Nat.pow_pos hB), Nat.div_eq_of_lt hu, Nat.zero_add, Nat.mod_eq_of_lt hd]
    · rw [if_neg e]
      refine dgt_big' (n := k + 1) hB ?_ (by omega)
      rw [Nat.pow_succ]
      calc u + B ^ k * d < B ^ k + B ^ k * d := by omega
        _ = B ^ k * (d + 1) := by rw [Nat.mul_add, Nat.mul_one, Nat.add_comm]
        _ ≤ B ^ k * B := Nat.mul_le_mul_left _ hd

/- ADDITION -/
/-- The carry into place k. -/
def carry (B x y k : Nat) : Nat := (x % B ^ k + y % B ^ k) / B ^ k
theorem carry_zero (B x y : Nat) : carry B x y 0 = 0 := by simp [carry, Nat.mod_one]
theorem carry_le {B : Nat} (hB : 0 < B) (x y k : Nat) : carry B x y k ≤ 1 := by
  unfold carry
  have hp := Nat.pow_pos (n := k) hB
  have h1 := Nat.mod_lt x hp
  have h2 := Nat.mod_lt y hp
  have : (x % B ^ k + y % B ^ k) / B ^ k < 2 := by rw [Nat.div_lt_iff_lt_mul hp]; omega
  omega
theorem carry_succ {B : Nat} (hB : 0 < B) (x y k : Nat) : carry B x y (k + 1) = (dgt B x k + dgt B y k + carry B x y k) / B := by
  unfold carry
  have hp := Nat.pow_pos (n := k) hB
  rw [mod_succ, mod_succ, show x % B ^ k + B ^ k * dgt B x k + (y % B ^ k + B ^ k * dgt B y k) = (x % B ^ k + y % B ^ k) + B ^ k * (dgt B x k + dgt B y k) by rw [Nat.mul_add]; omega,
    Nat.pow_succ, ← Nat.div_div_eq_div_mul, Nat.add_mul_div_left _ _ hp, Nat.add_comm]
theorem dgt_add {B : Nat} (hB : 0 < B) (x y k : Nat) : dgt B (x + y) k = (dgt B x k + dgt B y k + carry B x y k) % B := by
  have hp := Nat.pow_pos (n := k) hB
  have e : x + y = (x % B ^ k + y % B ^ k) + B ^ k * (x / B ^ k + y / B ^ k) := by
    have h1 := Nat.mod_add_div x (B ^ k)
    have h2 := Nat.mod_add_div y (B ^ k)
    rw [Nat.mul_add]; omega
  have e2 : (x + y) / B ^ k = carry B x y k + (x / B ^ k + y / B ^ k) := by
    unfold carry
    rw [e, Nat.add_mul_div_left _ _ hp]
  unfold dgt
  rw [e2, Nat.add_comm (carry B x y k), Nat.add_mod (x / B ^ k + y / B ^ k), Nat.add_mod (x / B ^ k), Nat.add_mod (x / B ^ k % B + y / B ^ k % B)]

/- SUBTRACTION -/
/-- What is borrowed at place k. -/
def borrow (B x y k : Nat) : Nat := if x % B ^ k < y % B ^ k then 1 else 0
theorem borrow_zero (B x y : Nat) : borrow B x y 0 = 0 := by simp [borrow, Nat.mod_one]
theorem borrow_le (B x y k : Nat) : borrow B x y k ≤ 1 := by unfold borrow; split <;> omega
theorem borrow_succ {B : Nat} (hB : 0 < B) (x y k : Nat) : borrow B x y (k + 1) = if dgt B x k < dgt B y k + borrow B x y k then 1 else 0 := by
  have hp := Nat.pow_pos (n := k) hB
  unfold borrow
  rw [mod_succ, mod_succ]
  have h1 := Nat.mod_lt x hp
  have h2 := Nat.mod_lt y hp
  generalize dgt B x k = a
  generalize dgt B y k = b
  generalize x % B ^ k = p at *
  generalize y % B ^ k = q at *
  generalize B ^ k = m at *
  have key : (p + m * a < q + m * b) ↔ (a < b + if p < q then 1 else 0) := by
    by_cases hpq : p < q
    · rw [if_pos hpq]
      constructor
      · intro h
        apply Nat.lt_of_not_le
        intro hle
        obtain ⟨d, rfl⟩ : ∃ d, a = b + 1 + d := ⟨a - b - 1, by omega⟩
        rw [Nat.mul_add, Nat.mul_add, Nat.mul_one] at h
        have : 0 ≤ m * d := Nat.zero_le _
        omega
      · intro h
        have : m * a ≤ m * b := Nat.mul_le_mul_left _ (by omega)
        omega
    · rw [if_neg hpq]
      constructor
      · intro h
        apply Nat.lt_of_not_le
        intro hle
        have : m * b ≤ m * a := Nat.mul_le_mul_left _ (by omega)
        omega
      · intro h
        have : m * (a + 1) ≤ m * b := Nat.mul_le_mul_left _ (by omega)
        rw [Nat.mul_add, Nat.mul_one] at this
        omega
  by_cases hc : p + m * a < q + m * b
  · rw [if_pos hc, if_pos (key.1 hc)]
  · rw [if_neg hc, if_neg (fun h => hc (key.2 h))]
theorem dgt_sub {B : Nat} (hB : 0 < B) {x y : Nat} (hyx : y ≤ x) (k : Nat) : dgt B (x - y) k = (dgt B x k + B - dgt B y k - borrow B x y k) % B := by
  have hp := Nat.pow_pos (n := k) hB
  obtain ⟨z, rfl⟩ : ∃ z, x = z + y := ⟨x - y, by omega⟩
  rw [Nat.add_sub_cancel]
  have hadd := dgt_add hB z y k
  have hz := dgt_lt hB z k
  have hy := dgt_lt hB y k
  have hc := carry_le hB z y k
  have hcb : borrow B (z + y) y k = carry B z y k := by
    unfold borrow carry
    have h1 := Nat.mod_lt z hp
    have h2 := Nat.mod_lt y hp
    rw [Nat.add_mod]
    generalize z % B ^ k = p at *
    generalize y % B ^ k = q at *
    generalize B ^ k = m at *
    by_cases hlt : p + q < m
    · rw [Nat.mod_eq_of_lt hlt, Nat.div_eq_of_lt hlt, if_neg (by omega)]
    · have e : (p + q) % m = p + q - m := by
        rw [Nat.mod_eq_sub_mod (by omega), Nat.mod_eq_of_lt (show p + q - m < m by omega)]
      have e2 : (p + q) / m = 1 := by
        rw [Nat.div_eq_sub_div hp (by omega), Nat.div_eq_of_lt (show p + q - m < m by omega)]
      rw [e, e2, if_pos (by omega)]
  rw [hadd, hcb]
  generalize dgt B z k = a at *
  generalize dgt B y k = b at *
  generalize carry B z y k = c at *
  by_cases hlt : a + b + c < B
  · rw [Nat.mod_eq_of_lt hlt, show a + b + c + B - b - c = a + B by omega, Nat.add_mod_right, Nat.mod_eq_of_lt hz]
  · rw [Nat.mod_eq_sub_mod (by omega : a + b + c ≥ B), Nat.mod_eq_of_lt (by omega : a + b + c - B < B)]
    rw [show a + b + c - B + B - b - c = a by omega, Nat.mod_eq_of_lt hz]

/- A SUM WITH A MULTIPLE -/
/-- The carry into place k of x + y*m. -/
def mcarry (B x y m k : Nat) : Nat := (x % B ^ k + y % B ^ k * m) / B ^ k
theorem mcarry_zero (B x y m : Nat) : mcarry B x y m 0 = 0 := by simp [mcarry, Nat.mod_one]
theorem mcarry_succ {B : Nat} (hB : 0 < B) (x y m k : Nat) : mcarry B x y m (k + 1) = (dgt B x k + dgt B y k * m + mcarry B x y m k) / B := by
  unfold mcarry
  have hp := Nat.pow_pos (n := k) hB
  rw [mod_succ, mod_succ, show x % B ^ k + B ^ k * dgt B x k + (y % B ^ k + B ^ k * dgt B y k) * m = (x % B ^ k + y % B ^ k * m) + B ^ k * (dgt B x k + dgt B y k * m) by
      rw [Nat.add_mul, Nat.mul_add, Nat.mul_assoc]; omega,
    Nat.pow_succ, ← Nat.div_div_eq_div_mul, Nat.add_mul_div_left _ _ hp, Nat.add_comm]
theorem mcarry_lt {B : Nat} (hB : 0 < B) {m : Nat} (hm : m < B) (x y k : Nat) : mcarry B x y m k < B := by
  unfold mcarry
  have hp := Nat.pow_pos (n := k) hB
  have h1 := Nat.mod_lt x hp
  have h2 := Nat.mod_lt y hp
  rw [Nat.div_lt_iff_lt_mul hp]
  calc x % B ^ k + y % B ^ k * m < B ^ k + y % B ^ k * m := by omega
    _ ≤ B ^ k + B ^ k * m := Nat.add_le_add_left (Nat.mul_le_mul_right _ (Nat.le_of_lt h2)) _
    _ = (m + 1) * B ^ k := by rw [Nat.add_mul, Nat.one_mul, Nat.mul_comm]; omega
    _ ≤ B * B ^ k := Nat.mul_le_mul_right _ hm
theorem dgt_addmul {B : Nat} (hB : 0 < B) (x y m k : Nat) : dgt B (x + y * m) k = (dgt B x k + dgt B y k * m + mcarry B x y m k) % B := by
  have hp := Nat.pow_pos (n := k) hB
  have e2 : (x + y * m) / B ^ k = mcarry B x y m k + (x / B ^ k + y / B ^ k * m) := by
    have h1 := Nat.mod_add_div x (B ^ k)
    have h2 := Nat.mod_add_div y (B ^ k)
    have e : x + y * m = (x % B ^ k + y % B ^ k * m) + B ^ k * (x / B ^ k + y / B ^ k * m) := by
      rw [Nat.mul_add, ← Nat.mul_assoc]
      calc x + y * m = (x % B ^ k + B ^ k * (x / B ^ k)) + (y % B ^ k + B ^ k * (y / B ^ k)) * m := by rw [h1, h2]
        _ = _ := by rw [Nat.add_mul]; omega
    unfold mcarry
    rw [e, Nat.add_mul_div_left _ _ hp]
  unfold dgt
  rw [e2, Nat.add_comm (mcarry B x y m k), Nat.add_mod (x / B ^ k + y / B ^ k * m), Nat.add_mod (x / B ^ k), Nat.mul_mod (y / B ^ k) m, Nat.add_mod (x / B ^ k % B + y / B ^ k % B * m),
    Nat.add_mod (x / B ^ k % B) (y / B ^ k % B * m), Nat.mod_mod, Nat.mul_mod (y / B ^ k % B) m, Nat.mod_mod]

/- HOW MANY DIGITS -/
/-- How many digits to the base 2^k; 0 for 0. -/
def nd (k v : Nat) : Nat := if v = 0 then 0 else Nat.log2 v / k + 1
theorem nd_zero (k : Nat) : nd k 0 = 0 := rfl
theorem pow2_pow (k n : Nat) : (2 ^ k) ^ n = 2 ^ (k * n) := (Nat.pow_mul 2 k n).symm
theorem nd_lt {k : Nat} (hk : 0 < k) (v : Nat) : v < (2 ^ k) ^ nd k v := by
  unfold nd
  split
  · rename_i h; subst h; simp
  · rename_i h
    rw [pow2_pow]
    refine (Nat.log2_lt h).1 ?_
    have := Nat.lt_div_mul_add (a := Nat.log2 v) hk
    rw [Nat.mul_add, Nat.mul_one, Nat.mul_comm]; omega
theorem nd_le {k : Nat} (v : Nat) (h : v ≠ 0) : (2 ^ k) ^ (nd k v - 1) ≤ v := by
  unfold nd
  rw [if_neg h, Nat.add_sub_cancel, pow2_pow]
  refine (Nat.le_log2 h).1 ?_
  rw [Nat.mul_comm]; exact Nat.div_mul_le_self _ _
theorem nd_le_of_lt {k n v : Nat} (hk : 0 < k) (h : v < (2 ^ k) ^ n) : nd k v ≤ n := by
  by_cases h0 : v = 0
  · subst h0; simp [nd_zero]
  · have h1 := nd_le (k := k) v h0
    have h2 : 1 < 2 ^ k := Nat.one_lt_two_pow (by omega)
    have h3 := (Nat.pow_lt_pow_iff_right h2).1 (Nat.lt_of_le_of_lt h1 h)
    omega
theorem nd_pos {k v : Nat} (h : v ≠ 0) : 0 < nd k v := by unfold nd; rw [if_neg h]; exact Nat.succ_pos _
theorem lt_nd {k n v : Nat} (hk : 0 < k) (h : (2 ^ k) ^ n ≤ v) : n < nd k v := by
  have h1 := nd_lt hk v
  have h2 : 1 < 2 ^ k := Nat.one_lt_two_pow (by omega)
  exact (Nat.pow_lt_pow_iff_right h2).1 (Nat.lt_of_le_of_lt h h1)
theorem nd_eq {k n v : Nat} (hk : 0 < k) (h : v < (2 ^ k) ^ n) (h' : 0 < n → (2 ^ k) ^ (n - 1) ≤ v) : nd k v = n := by
  have h1 := nd_le_of_lt hk h
  rcases Nat.eq_zero_or_pos n with h0 | h0
  · omega
  · have := lt_nd hk (h' h0)
    omega
theorem nd_eq_zero {k v : Nat} (h : nd k v = 0) : v = 0 := by
  apply Classical.byContradiction
  intro h0
  have := nd_pos (k := k) h0
  omega
theorem nd_mono {k u v : Nat} (hk : 0 < k) (h : u ≤ v) : nd k u ≤ nd k v :=
  nd_le_of_lt hk (Nat.lt_of_le_of_lt h (nd_lt hk v))
/-- The highest digit is not 0; those above are. -/
theorem dgt_top {k v : Nat} (hk : 0 < k) (h : v ≠ 0) : dgt (2 ^ k) v (nd k v - 1) ≠ 0 := by
  have h1 := nd_le (k := k) v h
  have h2 := nd_lt hk v
  have hp := nd_pos (k := k) h
  unfold dgt
  have e : (2 ^ k) ^ nd k v = 2 ^ k * (2 ^ k) ^ (nd k v - 1) := by
    rw [← Nat.pow_succ']; congr 1; omega
  have hq : 0 < (2 ^ k) ^ (nd k v - 1) := Nat.pow_pos (Nat.two_pow_pos k)
  have hlt : v / (2 ^ k) ^ (nd k v - 1) < 2 ^ k := (Nat.div_lt_iff_lt_mul hq).2 (by rw [← e]; exact h2)
  rw [Nat.mod_eq_of_lt hlt]
  have := Nat.div_pos h1 hq
  omega
theorem dgt_above {k v j : Nat} (hk : 0 < k) (h : nd k v ≤ j) : dgt (2 ^ k) v j = 0 :=
  dgt_big' (Nat.two_pow_pos k) (nd_lt hk v) h
/-- A number below B^n whose digits from k on are 0, the one below is not: k digits. -/
theorem nd_of_dgts {k n m v : Nat} (hk : 0 < k) (h : v < (2 ^ k) ^ n) (hmn : m ≤ n) (hz : ∀ j, m ≤ j → j < n → dgt (2 ^ k) v j = 0) (ht : 0 < m → dgt (2 ^ k) v (m - 1) ≠ 0) : nd k v = m := by
  have hB := Nat.two_pow_pos k
  have hv : v < (2 ^ k) ^ m := by
    have e : v = v % (2 ^ k) ^ m := by
      refine dgt_ext h (Nat.lt_of_lt_of_le (Nat.mod_lt _ (Nat.pow_pos hB)) (Nat.pow_le_pow_right hB hmn)) fun j hj => ?_
      by_cases hjm : j < m
      · rw [dgt_mod hjm]
      · rw [hz j (by omega) hj, dgt_big' hB (Nat.mod_lt _ (Nat.pow_pos hB)) (by omega)]
    rw [e]; exact Nat.mod_lt _ (Nat.pow_pos hB)
  refine nd_eq hk hv fun h0 => ?_
  apply Nat.le_of_not_lt
  intro hlt
  exact ht h0 (dgt_big hlt)
theorem lt_of_nd_lt {k u v : Nat} (hk : 0 < k) (h : nd k u < nd k v) : u < v := by
  apply Nat.lt_of_not_le
  intro hle
  have := nd_mono hk hle
  omega
/-- Two numbers whose digits above k are the same, and u's digit at k is below v's: u < v. -/
theorem lt_of_dgt {B u v k n : Nat} (hB : 0 < B) (hu : u < B ^ n) (hv : v < B ^ n) (_hkn : k < n) (he : ∀ j, k < j → j < n → dgt B u j = dgt B v j) (hd : dgt B u k < dgt B v k) : u < v := by
  have e : u / B ^ (k + 1) = v / B ^ (k + 1) := by
    refine dgt_ext (n := n) (Nat.lt_of_le_of_lt (Nat.div_le_self _ _) hu) (Nat.lt_of_le_of_lt (Nat.div_le_self _ _) hv) fun j hj => ?_
    rw [dgt_div, dgt_div]
    by_cases hj2 : k + 1 + j < n
    · exact he _ (by omega) hj2
    · rw [dgt_big' hB hu (by omega), dgt_big' hB hv (by omega)]
  rw [split3 B u k, split3 B v k, e]
  have hp := Nat.pow_pos (n := k) hB
  have h1 := Nat.mod_lt u hp
  have h2 : B ^ k * (dgt B u k + B * (v / B ^ (k + 1)) + 1) ≤ B ^ k * (dgt B v k + B * (v / B ^ (k + 1))) := Nat.mul_le_mul_left _ (by omega)
  rw [Nat.mul_add _ _ 1, Nat.mul_one] at h2
  generalize u % B ^ k = p at *
  generalize v % B ^ k = q at *
  generalize B ^ k * (dgt B u k + B * (v / B ^ (k + 1))) = r at *
  generalize B ^ k * (dgt B v k + B * (v / B ^ (k + 1))) = s at *
  omega
/-- A text's number: bytes, the highest first. -/
def bval (l : List UInt8) : Nat := l.foldl (fun a c => a * 256 + c.toNat) 0
theorem snocRec_aux {α : Type} {motive : List α → Prop} (nil : motive []) (snoc : ∀ l a, motive l → motive (l ++ [a])) : ∀ l : List α, motive l.reverse := by
  intro l
  induction l with
  | nil => exact nil
  | cons a l ih => rw [List.reverse_cons]; exact snoc _ _ ih
theorem snocRec {α : Type} {motive : List α → Prop} (l : List α) (nil : motive []) (snoc : ∀ l a, motive l → motive (l ++ [a])) : motive l := by
  have := snocRec_aux nil snoc l.reverse
  rwa [List.reverse_reverse] at this
theorem bval_snoc (l : List UInt8) (c : UInt8) : bval (l ++ [c]) = bval l * 256 + c.toNat := by simp [bval, List.foldl_append]
theorem bval_lt (l : List UInt8) : bval l < 256 ^ l.length := by
  induction l using snocRec with
  | nil => decide
  | snoc l c ih =>
    rw [bval_snoc, List.length_append, List.length_singleton, Nat.pow_succ]
    have := c.toNat_lt
    omega
theorem dgt_bval (l : List UInt8) (i : Nat) (h : i < l.length) : dgt 256 (bval l) i = (l[l.length - 1 - i]'(by omega)).toNat := by
  induction l using snocRec generalizing i with
  | nil => simp at h
  | snoc l c ih =>
    have hc := c.toNat_lt
    rw [bval_snoc]
    rcases i with _ | i
    · simp [dgt]
    · have e : dgt 256 (bval l * 256 + c.toNat) (i + 1) = dgt 256 (bval l) i := by
        unfold dgt
        rw [Nat.pow_succ', ← Nat.div_div_eq_div_mul]
        congr 2
        omega
      have hi : i < l.length := by simpa using h
      rw [e, ih i hi]
      congr 1
      rw [List.getElem_append_left (by simp; omega)]
      congr 1
      simp only [List.length_append, List.length_singleton]; omega
/-- d put into a limb above e bits that are there: the one limb turns. -/
theorem dgt_or {u q e d f : Nat} (hu : u < LB ^ q * 2 ^ e) (hd : d < 2 ^ f) (hef : e + f ≤ 64) (j : Nat) :
    dgt LB (u + LB ^ q * (2 ^ e * d)) j = if j = q then dgt LB u q ||| (d * 2 ^ e) else dgt LB u j := by
  have hp := Nat.pow_pos (n := q) LB_pos
  have h0 := Nat.mod_add_div u (LB ^ q)
  have hlo := Nat.mod_lt u hp
  have hh : u / LB ^ q < 2 ^ e := (Nat.div_lt_iff_lt_mul hp).2 (by rw [Nat.mul_comm]; exact hu)
  generalize u % LB ^ q = lo at *
  generalize u / LB ^ q = h at *
  have h64 : 2 ^ e * 2 ^ f ≤ LB := by rw [LB_pow, ← Nat.pow_add]; exact Nat.pow_le_pow_right (by decide) hef
  have hle : 2 ^ e ≤ LB := Nat.le_trans (Nat.le_mul_of_pos_right _ (Nat.two_pow_pos f)) h64
  have hsum : h + 2 ^ e * d < LB := by
    have : 2 ^ e * (d + 1) ≤ 2 ^ e * 2 ^ f := Nat.mul_le_mul_left _ hd
    rw [Nat.mul_add, Nat.mul_one] at this
    omega
  have e1 : u + LB ^ q * (2 ^ e * d) = lo + LB ^ q * (h + 2 ^ e * d) := by rw [Nat.mul_add, ← h0]; omega
  rw [e1, dgt_put LB_pos hlo hsum, ← h0, dgt_put LB_pos hlo (Nat.lt_of_lt_of_le hh hle), dgt_put LB_pos hlo (Nat.lt_of_lt_of_le hh hle)]
  by_cases hj : j = q
  · subst hj
    simp only [Nat.lt_irrefl, if_false, if_true]
    rw [Nat.or_comm, Nat.mul_comm d, ← Nat.two_pow_add_eq_or_of_lt hh d]; omega
  · by_cases hj2 : j < q
    · simp [hj, hj2]
    · simp [hj, hj2]
/-- One byte more of a number in its limbs. -/
theorem dgt_byte (V k j : Nat) : dgt LB (V % 256 ^ (k + 1)) j = if j = k / 8 then dgt LB (V % 256 ^ k) (k / 8) ||| (dgt 256 V k * 2 ^ (k % 8 * 8)) else dgt LB (V % 256 ^ k) j := by
  have e : 256 ^ k = LB ^ (k / 8) * 2 ^ (k % 8 * 8) := by
    rw [LB_pow, show 256 = 2 ^ 8 from rfl, ← Nat.pow_mul, ← Nat.pow_mul, ← Nat.pow_add]; congr 1; omega
  have h := dgt_or (u := V % 256 ^ k) (q := k / 8) (e := k % 8 * 8) (d := dgt 256 V k) (f := 8) (by rw [← e]; exact Nat.mod_lt _ (Nat.pow_pos (by decide))) (dgt_lt (B := 256) (by decide) _ _) (by omega) j
  rw [← h, mod_succ, e, Nat.mul_assoc]
theorem byte_shl_lt {d r : Nat} (hd : d < 256) (hr : r < 8) : d * 2 ^ (r * 8) < LB := by
  have h1 : d * 2 ^ (r * 8) < 2 ^ 8 * 2 ^ (r * 8) := Nat.mul_lt_mul_of_pos_right hd (Nat.two_pow_pos _)
  rw [← Nat.pow_add] at h1
  exact Nat.lt_of_lt_of_le h1 (by rw [LB_pow]; exact Nat.pow_le_pow_right (by decide) (by omega))
theorem nd_shift {m v : Nat} (h : v / 2 ^ m ≠ 0) : nd 1 v = m + nd 1 (v / 2 ^ m) := by
  have h1 := nd_lt (k := 1) (by decide) (v / 2 ^ m)
  have h2 := nd_le (k := 1) (v / 2 ^ m) h
  have h3 := nd_pos (k := 1) h
  have hp := Nat.two_pow_pos m
  simp only [Nat.pow_one] at h1 h2
  refine nd_eq (k := 1) (by decide) ?_ (fun _ => ?_)
  · rw [Nat.pow_one, Nat.pow_add, Nat.mul_comm]
    exact (Nat.div_lt_iff_lt_mul hp).1 h1
  · rw [Nat.pow_one, show m + nd 1 (v / 2 ^ m) - 1 = m + (nd 1 (v / 2 ^ m) - 1) by omega, Nat.pow_add, Nat.mul_comm]
    exact (Nat.le_div_iff_mul_le hp).1 h2
theorem bitLen_nd (x : Nat) (hx : x < 2 ^ 64) : Lib.bitLen x = nd 1 x := by
  by_cases h0 : x = 0
  · subst h0; decide
  · have h1 := nd_lt (k := 1) (by decide) x
    have h2 := nd_le (k := 1) x h0
    have h3 := nd_pos (k := 1) h0
    have h4 : nd 1 x ≤ 64 := nd_le_of_lt (by decide) (by simpa using hx)
    simp only [Nat.pow_one] at h1 h2
    have h5 := Lib.bitLen_le x (nd 1 x) h4 h1
    have h6 := Lib.bitLen_shift _ x h2 hx
    have h7 : x / 2 ^ (nd 1 x - 1) ≠ 0 := by
      have := Nat.div_pos h2 (Nat.two_pow_pos _)
      omega
    have h8 := Lib.bitLen_half _ h7 (Nat.lt_of_le_of_lt (Nat.div_le_self _ _) hx)
    omega
/-- How many bits a number has, from its highest limb. -/
theorem nd1_top {v : Nat} (h : v ≠ 0) : nd 1 v = 64 * (nd 64 v - 1) + nd 1 (dgt LB v (nd 64 v - 1)) := by
  have h1 := nd_lt (k := 64) (by decide) v
  have h2 := nd_le (k := 64) v h
  have h3 := nd_pos (k := 64) h
  have e : dgt LB v (nd 64 v - 1) = v / 2 ^ (64 * (nd 64 v - 1)) := by
    unfold dgt
    rw [LB_pow, pow2_pow]
    refine Nat.mod_eq_of_lt ?_
    rw [Nat.div_lt_iff_lt_mul (Nat.two_pow_pos _), ← Nat.pow_add]
    rw [pow2_pow] at h1
    rwa [show 64 + 64 * (nd 64 v - 1) = 64 * nd 64 v by omega]
  rw [e]
  refine nd_shift ?_
  rw [pow2_pow] at h2
  have := Nat.div_pos h2 (Nat.two_pow_pos _)
  omega
theorem nd_bytes (v : Nat) : (nd 1 v + 7) / 8 = nd 8 v := by
  by_cases h : v = 0
  · subst h; simp [nd_zero]
  · unfold nd
    rw [if_neg h, if_neg h]
    omega
theorem dgt_of_limb (v i : Nat) : dgt LB v (i / 8) / 2 ^ (i % 8 * 8) % 256 = dgt 256 v i := by
  unfold dgt
  have e : 256 ^ i = LB ^ (i / 8) * 2 ^ (i % 8 * 8) := by
    rw [LB_pow, show 256 = 2 ^ 8 from rfl, ← Nat.pow_mul, ← Nat.pow_mul, ← Nat.pow_add]; congr 1; omega
  rw [e, ← Nat.div_div_eq_div_mul]
  generalize v / LB ^ (i / 8) = x
  have h8 : i % 8 < 8 := Nat.mod_lt _ (by decide)
  generalize i % 8 = r at *
  have e2 : LB = 2 ^ (r * 8) * (256 * 2 ^ (64 - 8 - r * 8)) := by
    rw [LB_pow, show 256 = 2 ^ 8 from rfl, ← Nat.pow_add, ← Nat.pow_add]; congr 1; omega
  rw [e2, Nat.mod_mul_right_div_self, Nat.mod_mul_right_mod]
/-- The one text of a number: its bytes, the highest first. -/
def nbytes (v : Nat) : List UInt8 := (List.range (nd 8 v)).map fun j => UInt8.ofNat (dgt 256 v (nd 8 v - 1 - j))
def nstr (v : Nat) : ByteArray := ⟨(nbytes v).toArray⟩
/-- -1, 0, 1. -/
def cmpI (u v : Nat) : Int := if u < v then -1 else if u = v then 0 else 1
/- SHIFTS -/
theorem mul_pow_mod {d s : Nat} (hs : s ≤ 64) : d * 2 ^ s % LB = d % 2 ^ (64 - s) * 2 ^ s := by
  have e : LB = 2 ^ (64 - s) * 2 ^ s := by rw [LB_pow, ← Nat.pow_add]; congr 1; omega
  rw [e, Nat.mul_mod_mul_right]
theorem mul_pow_div {d s : Nat} (hs : s ≤ 64) : d * 2 ^ s / LB = d / 2 ^ (64 - s) := by
  have e : LB = 2 ^ (64 - s) * 2 ^ s := by rw [LB_pow, ← Nat.pow_add]; congr 1; omega
  rw [e, Nat.mul_div_mul_right _ _ (Nat.two_pow_pos s)]
/-- A limb more, moved up: two limbs turn. -/
theorem dgt_up {u at_ d s : Nat} (hu : u < LB ^ at_ * 2 ^ s) (hd : d < LB) (hs : s < 64) (j : Nat) :
    dgt LB (u + LB ^ at_ * (2 ^ s * d)) j = if j = at_ then dgt LB u at_ ||| (d * 2 ^ s % LB) else if j = at_ + 1 then d / 2 ^ (64 - s) else dgt LB u j := by
  have hp := Nat.pow_pos (n := at_) LB_pos
  have e1 : 2 ^ s * d = 2 ^ s * (d % 2 ^ (64 - s)) + LB * (d / 2 ^ (64 - s)) := by
    have h := Nat.mod_add_div d (2 ^ (64 - s))
    have e : LB = 2 ^ s * 2 ^ (64 - s) := by rw [LB_pow, ← Nat.pow_add]; congr 1; omega
    rw [e, Nat.mul_assoc, ← Nat.mul_add, h]
  have hlow : d % 2 ^ (64 - s) < 2 ^ (64 - s) := Nat.mod_lt _ (Nat.two_pow_pos _)
  have h1 := fun j => dgt_or (u := u) (q := at_) (e := s) (d := d % 2 ^ (64 - s)) (f := 64 - s) hu hlow (by omega) j
  have hU : u + LB ^ at_ * (2 ^ s * (d % 2 ^ (64 - s))) < LB ^ (at_ + 1) := by
    have e : LB = 2 ^ s * 2 ^ (64 - s) := by rw [LB_pow, ← Nat.pow_add]; congr 1; omega
    rw [Nat.pow_succ]
    have : LB ^ at_ * (2 ^ s * (d % 2 ^ (64 - s) + 1)) ≤ LB ^ at_ * LB := Nat.mul_le_mul_left _ (by rw [e]; exact Nat.mul_le_mul_left _ hlow)
    rw [Nat.mul_add, Nat.mul_add, Nat.mul_one] at this
    omega
  have hhi : d / 2 ^ (64 - s) < LB := Nat.lt_of_le_of_lt (Nat.div_le_self _ _) hd
  rw [e1, Nat.mul_add, ← Nat.add_assoc, ← Nat.mul_assoc (LB ^ at_) LB, ← Nat.pow_succ, dgt_put LB_pos hU hhi, h1, mul_pow_mod (by omega)]
  by_cases ha : j = at_
  · subst ha; simp
  · by_cases hb : j = at_ + 1
    · subst hb; simp
    · by_cases hc : j < at_ + 1
      · simp [ha, hb, hc]
      · simp only [ha, hb, hc, if_false]
        rw [dgt_big' (n := at_ + 1) LB_pos ?_ (by omega)]
        rw [Nat.pow_succ]
        refine Nat.lt_of_lt_of_le hu (Nat.mul_le_mul_left _ ?_)
        rw [LB_pow]; exact Nat.pow_le_pow_right (by decide) (by omega)
/-- A limb of a number that is moved down. -/
theorem dgt_down (v q s i : Nat) (hs : s < 64) : dgt LB (v / 2 ^ (64 * q + s)) i = (dgt LB v (q + i) / 2 ^ s) ||| (dgt LB v (q + i + 1) * 2 ^ (64 - s) % LB) := by
  have e : LB = 2 ^ s * 2 ^ (64 - s) := by rw [LB_pow, ← Nat.pow_add]; congr 1; omega
  have e1 : v / 2 ^ (64 * q + s) / LB ^ i = v / LB ^ (q + i) / 2 ^ s := by
    rw [Nat.div_div_eq_div_mul, Nat.div_div_eq_div_mul]
    congr 1
    rw [LB_pow, pow2_pow, pow2_pow, ← Nat.pow_add, ← Nat.pow_add]; congr 1; omega
  have e2 : dgt LB v (q + i + 1) = v / LB ^ (q + i) / LB % LB := by unfold dgt; rw [Nat.pow_succ, Nat.div_div_eq_div_mul]
  have e3 : dgt LB v (q + i) = v / LB ^ (q + i) % LB := rfl
  unfold dgt at *
  rw [e1, e2, e3]
  generalize v / LB ^ (q + i) = y
  have h := Nat.mod_add_div y LB
  have ha : y % LB < LB := Nat.mod_lt _ LB_pos
  generalize y % LB = a at *
  generalize y / LB = z at *
  rw [← h, mul_pow_mod (by omega), show 64 - (64 - s) = s by omega]
  have h1 : (a + LB * z) / 2 ^ s = a / 2 ^ s + 2 ^ (64 - s) * z := by
    rw [e, Nat.mul_assoc, Nat.add_mul_div_left _ _ (Nat.two_pow_pos s)]
  have h2 : a / 2 ^ s < 2 ^ (64 - s) := (Nat.div_lt_iff_lt_mul (Nat.two_pow_pos s)).2 (by rw [Nat.mul_comm, ← e]; exact ha)
  rw [h1]
  have h3 : (a / 2 ^ s + 2 ^ (64 - s) * z) % LB = 2 ^ (64 - s) * (z % 2 ^ s) + a / 2 ^ s := by
    rw [e, Nat.mul_comm (2 ^ s) (2 ^ (64 - s)), Nat.mod_mul, Nat.add_mul_mod_self_left, Nat.mod_eq_of_lt h2, Nat.add_mul_div_left _ _ (Nat.two_pow_pos _), Nat.div_eq_of_lt h2, Nat.zero_add]
    omega
  rw [h3, Nat.two_pow_add_eq_or_of_lt h2, Nat.or_comm, Nat.mul_comm (2 ^ (64 - s)), Nat.mod_mod_of_dvd z (Nat.pow_dvd_pow 2 (by omega : s ≤ 64) |> fun h => by rw [LB_pow]; exact h)]
theorem dgt_add_lt {B X Z i j : Nat} (h : j < i) : dgt B (X + B ^ i * Z) j = dgt B X j := by
  rw [← dgt_mod h, Nat.add_mul_mod_self_left, dgt_mod h]
theorem dgt_add_ge {B X Z i k : Nat} (hB : 0 < B) : dgt B (X + B ^ i * Z) (i + k) = dgt B (X / B ^ i + Z) k := by
  rw [← dgt_div, Nat.add_mul_div_left _ _ (Nat.pow_pos hB)]
theorem nd_bval (l : List UInt8) : nd 64 (bval l) ≤ (l.length + 7) / 8 := by
  refine nd_le_of_lt (by decide) (Nat.lt_of_lt_of_le (bval_lt l) ?_)
  rw [pow2_pow, show 256 = 2 ^ 8 from rfl, ← Nat.pow_mul]
  exact Nat.pow_le_pow_right (by decide) (by omega)
theorem cmpI_lt {u v : Nat} : cmpI u v < 0 ↔ u < v := by unfold cmpI; split <;> (try split) <;> omega
theorem cmpI_gt {u v : Nat} : 0 < cmpI u v ↔ v < u := by unfold cmpI; split <;> (try split) <;> omega
theorem cmpI_bd (u v : Nat) : -1 ≤ cmpI u v ∧ cmpI u v ≤ 1 := by unfold cmpI; split <;> (try split) <;> omega
/-- The sum of the first k. -/
def sumTo (f : Nat → Nat) : Nat → Nat | 0 => 0 | k + 1 => sumTo f k + f k
theorem sumTo_lt {f : Nat → Nat} {M : Nat} (h : ∀ j, f j < LB ^ M) : ∀ k, sumTo f k < LB ^ (M + k)
  | 0 => by show 0 < _; exact Nat.pow_pos LB_pos
  | k + 1 => by
    have h1 := sumTo_lt h k
    have h2 := h k
    have h3 : LB ^ M ≤ LB ^ (M + k) := Nat.pow_le_pow_right LB_pos (by omega)
    show sumTo f k + f k < LB ^ (M + k + 1)
    rw [Nat.pow_succ]
    have h4 : LB ^ (M + k) * 2 ≤ LB ^ (M + k) * LB := Nat.mul_le_mul_left _ (by decide)
    omega
/- TRAILING NOUGHTS -/
theorem two_odd {a b m n : Nat} (h : 2 ^ a * (2 * m + 1) = 2 ^ b * (2 * n + 1)) : a = b := by
  rcases Nat.lt_trichotomy a b with hl | hl | hl
  · exfalso
    obtain ⟨d, rfl⟩ : ∃ d, b = a + (d + 1) := ⟨b - a - 1, by omega⟩
    rw [Nat.pow_add, Nat.mul_assoc] at h
    have h2 := Nat.eq_of_mul_eq_mul_left (Nat.two_pow_pos a) h
    rw [Nat.pow_succ, Nat.mul_comm (2 ^ d) 2, Nat.mul_assoc] at h2
    omega
  · exact hl
  · exfalso
    obtain ⟨d, rfl⟩ : ∃ d, a = b + (d + 1) := ⟨a - b - 1, by omega⟩
    rw [Nat.pow_add, Nat.mul_assoc] at h
    have h2 := Nat.eq_of_mul_eq_mul_left (Nat.two_pow_pos b) h
    rw [Nat.pow_succ, Nat.mul_comm (2 ^ d) 2, Nat.mul_assoc] at h2
    omega
/-- How many noughts a number has at its low end; 0 for 0. -/
def tz (v : Nat) : Nat := if v = 0 then 0 else Lib.ctzFrom v v
theorem tz_zero : tz 0 = 0 := rfl
theorem tz_spec {v : Nat} (h : v ≠ 0) : ∃ m, v = 2 ^ tz v * (2 * m + 1) := by
  obtain ⟨m, hm, _⟩ := Lib.ctzFrom_spec v v (by omega) Nat.lt_two_pow_self
  exact ⟨m, by unfold tz; rw [if_neg h]; exact hm⟩
theorem tz_eq {v k m : Nat} (h : v = 2 ^ k * (2 * m + 1)) : tz v = k := by
  have h0 : v ≠ 0 := by have := Nat.two_pow_pos k; rw [h]; exact Nat.ne_of_gt (Nat.mul_pos this (by omega))
  obtain ⟨n, hn⟩ := tz_spec h0
  exact two_odd (hn.symm.trans h)
theorem tz_ctz {x : Nat} (h0 : x ≠ 0) (hx : x < 2 ^ 64) : Lib.ctz 64 x = tz x := by
  obtain ⟨m, hm, _⟩ := Lib.ctzFrom_spec 64 x (by omega) hx
  unfold Lib.ctz
  rw [if_neg h0]
  exact (tz_eq hm).symm
/-- The lowest limb that is not 0 tells. -/
theorem tz_limb {v i : Nat} (hz : v % LB ^ i = 0) (hd : dgt LB v i ≠ 0) : tz v = 64 * i + tz (dgt LB v i) := by
  obtain ⟨m, hm⟩ := tz_spec hd
  have ht : tz (dgt LB v i) < 64 := by
    have h1 := dgt_lt LB_pos v i
    apply Nat.lt_of_not_le
    intro hle
    have h2 : 2 ^ 64 ≤ 2 ^ tz (dgt LB v i) := Nat.pow_le_pow_right (by decide) hle
    have h3 : 2 ^ tz (dgt LB v i) ≤ dgt LB v i := by conv => rhs; rw [hm]
                                                     exact Nat.le_mul_of_pos_right _ (by omega)
    have h4 := LB_pow
    omega
  have h := split3 LB v i
  rw [hz, Nat.zero_add] at h
  generalize tz (dgt LB v i) = k at *
  have e : LB = 2 ^ k * (2 * 2 ^ (63 - k)) := by rw [LB_pow, ← Nat.pow_succ', ← Nat.pow_add]; congr 1; omega
  refine tz_eq (m := m + 2 ^ (63 - k) * (v / LB ^ (i + 1))) ?_
  rw [Nat.pow_add, ← pow2_pow, ← LB_pow, Nat.mul_assoc]
  conv => lhs; rw [h]
  congr 1
  rw [hm]
  conv => lhs; rhs; lhs; rw [e]
  rw [Nat.mul_assoc, ← Nat.mul_add]
  congr 1
  rw [Nat.mul_add, Nat.mul_assoc]
  omega
/- TEXTS -/
theorem bval_cons_zero (l : List UInt8) : bval (0 :: l) = bval l := by simp [bval]
theorem bval_nil : bval [] = 0 := rfl
theorem nbytes_length (v : Nat) : (nbytes v).length = nd 8 v := by simp [nbytes]
theorem bval_nbytes (v : Nat) : bval (nbytes v) = v := by
  have hlen := nbytes_length v
  refine dgt_ext (B := 256) (n := nd 8 v) (by have := bval_lt (nbytes v); rwa [hlen] at this) (nd_lt (k := 8) (by decide) v) fun j hj => ?_
  rw [dgt_bval _ _ (by omega)]
  simp only [nbytes, List.getElem_map, List.getElem_range, List.length_map, List.length_range]
  rw [show nd 8 v - 1 - (nd 8 v - 1 - j) = j by omega]
  have := dgt_lt (B := 256) (by decide) v j
  simp; omega
theorem nstr_bval (v : Nat) : bval (nstr v).data.toList = v := by show bval (nbytes v) = v; exact bval_nbytes v
/-- Bytes without a nought ahead are the text of their number. -/
theorem nbytes_of {l : List UInt8} (h : ∀ c, l.head? = some c → c ≠ 0) : nbytes (bval l) = l := by
  have hn : nd 8 (bval l) = l.length := by
    refine nd_eq (k := 8) (by decide) (bval_lt l) fun h0 => ?_
    rcases l with _ | ⟨c, l⟩
    · simp at h0
    · have hc : c ≠ 0 := h c rfl
      have h1 := dgt_bval (c :: l) l.length (by simp)
      simp at h1
      have hcn : c.toNat ≠ 0 := fun e => hc (by rw [← UInt8.toNat_inj]; simpa using e)
      show 256 ^ (l.length + 1 - 1) ≤ _
      rw [Nat.add_sub_cancel]
      apply Nat.le_of_not_lt
      intro hlt
      rw [dgt_big hlt] at h1
      exact hcn h1.symm
  apply List.ext_getElem
  · rw [nbytes_length, hn]
  · intro i h1 h2
    simp only [nbytes, List.getElem_map, List.getElem_range]
    rw [hn, dgt_bval l _ (by omega)]
    have e : ∀ j (hj : j < l.length), j = i → l[j]'hj = l[i]'h2 := fun j hj e => by subst e; rfl
    rw [e _ _ (by omega)]
    simp
theorem nbytes_dropWhile (l : List UInt8) : nbytes (bval l) = l.dropWhile (· == 0) := by
  induction l with
  | nil => rfl
  | cons c l ih =>
    by_cases hc : c = 0
    · subst hc; rw [bval_cons_zero, ih]; simp
    · rw [List.dropWhile_cons_of_neg (by simpa using hc)]
      exact nbytes_of fun d hd => by simp at hd; subst hd; exact hc
theorem nstr_inj {u v : Nat} : nstr u = nstr v ↔ u = v :=
  ⟨fun h => by rw [← nstr_bval u, ← nstr_bval v, h], fun h => by rw [h]⟩
theorem nstr_size (v : Nat) : (nstr v).size = nd 8 v := by show (nbytes v).toArray.size = _; simp [nbytes_length]
theorem LB_nd (v : Nat) : v < LB ^ nd 64 v := nd_lt (k := 64) (by decide) v
end Go.Proofs.YtmnmfidcldmhdaaDoor
