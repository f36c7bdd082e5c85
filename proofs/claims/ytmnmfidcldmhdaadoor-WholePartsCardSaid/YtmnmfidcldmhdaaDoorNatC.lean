/- The walks of package nat's limbs that write: add, take, plus. -/
import Derived.Test.YtmnmfidcldmhdaaDoorNatB
namespace Go.Proofs.YtmnmfidcldmhdaaDoor
open Go.RowKit

/-- A limb of a number, as a value. -/
def limb (v j : Nat) : Value := .int .u64 (dgt LB v j : Nat)

theorem add64_run (x y k : Nat) (w : World) : (callFunc 118 #[.int .u64 (dgt LB x k : Nat), .int .u64 (dgt LB y k : Nat), .int .u64 (carry LB x y k : Nat)]).run Tryd.prog w =
    .ok (.value (.tuple #[.int .u64 (dgt LB (x + y) k : Nat), .int .u64 (carry LB x y (k + 1) : Nat)])) w := by
  rw [Tryd.bits_Add64 _ _ _ (carry_le LB_pos x y k) w, dgt_add LB_pos x y k, carry_succ LB_pos x y k]; rfl
theorem sub64_run (x y k : Nat) (h : y ≤ x) (w : World) : (callFunc 119 #[.int .u64 (dgt LB x k : Nat), .int .u64 (dgt LB y k : Nat), .int .u64 (borrow LB x y k : Nat)]).run Tryd.prog w =
    .ok (.value (.tuple #[.int .u64 (dgt LB (x - y) k : Nat), .int .u64 (borrow LB x y (k + 1) : Nat)])) w := by
  rw [Tryd.bits_Sub64 _ _ _ (borrow_le LB x y k) w, dgt_sub LB_pos h k, borrow_succ LB_pos x y k]; rfl

theorem add64_run0 (a b : Nat) (w : World) : (callFunc 118 #[.int .u64 (a : Nat), .int .u64 (b : Nat), .int .u64 0]).run Tryd.prog w =
    .ok (.value (.tuple #[.int .u64 ((a + b) % 18446744073709551616 : Nat), .int .u64 ((a + b) / 18446744073709551616 : Nat)])) w := Tryd.bits_Add64 a b 0 (by omega) w
theorem add64_runz (x y k : Nat) (hd : dgt LB y k = 0) (w : World) : (callFunc 118 #[.int .u64 (dgt LB x k : Nat), .int .u64 0, .int .u64 (carry LB x y k : Nat)]).run Tryd.prog w =
    .ok (.value (.tuple #[.int .u64 (dgt LB (x + y) k : Nat), .int .u64 (carry LB x y (k + 1) : Nat)])) w := by
  have := add64_run x y k w
  rw [hd] at this
  exact this
theorem sub64_runz (x y k : Nat) (h : y ≤ x) (hd : dgt LB y k = 0) (w : World) : (callFunc 119 #[.int .u64 (dgt LB x k : Nat), .int .u64 0, .int .u64 (borrow LB x y k : Nat)]).run Tryd.prog w =
    .ok (.value (.tuple #[.int .u64 (dgt LB (x - y) k : Nat), .int .u64 (borrow LB x y (k + 1) : Nat)])) w := by
  have := sub64_run x y k h w
  rw [hd] at this
  exact this

set_option maxRecDepth 100000 in
set_option maxHeartbeats 400000 in
theorem add_any (g o n c T n' c' x y : Nat) (A' : Option Addr) (f : Nat → Value) (w : World) (hn : n ≤ 4294967296) (hT : o + n ≤ T) (hC : Cel w g 66 T (mix o n (limb x) f)) (hn' : n' ≤ 4294967296)
    (hy : y < LB ^ n') (hr : Rd w A' n' (limb y)) (ho : Off A' g) :
    Calls Tryd.prog 98 #[.slice (some ⟨g, o, none⟩) n c, .slice A' n' c'] w fun e w' => e = .returned (.tuple #[]) ∧ w.grownBy w' (some g) ∧ Cel w' g 66 T (mix o n (limb (x + y)) f) := by
  go_enter Tryd.func98, Tryd.ntmps98
  go_wp2
  go_loopw [4, 9] (fun cy i wr => ∃ k : Nat, k ≤ n ∧ i = .int .i64 k ∧ cy = .int .u64 (carry LB x y k : Nat) ∧ w.grownBy wr (some g) ∧ Cel wr g 66 T (mix o n (fun j => if j < k then limb (x + y) j else limb x j) f))
    (fun _ i _ => n - (intOf i).toNat)
  case atStart => exact ⟨0, Nat.zero_le _, rfl, by rw [carry_zero]; rfl, World.grownBy.refl _ _, hC.congr fun j _ => mix_congr (fun i _ => by rw [if_neg (by omega)]) j⟩
  case round =>
    obtain ⟨k, hk, rfl, rfl, hg, hC2⟩ := hrel
    by_cases hlt : k < n
    · have g1 : wr.cell? ⟨g, o + k, none⟩ = some (.int .u64 (dgt LB x k : Nat)) := by rw [hC2.cell (by omega), mix_in hlt, if_neg (by omega)]; rfl
      have g2 := hC2.frozen (o + k)
      have hadd := add64_run x y k
      have hr2 := hr.grown hg ho
      by_cases hlt2 : k < n'
      · obtain ⟨b, off, rfl, hc⟩ := hr2 (by omega)
        have g3 : wr.cell? ⟨b, off + k, none⟩ = some (.int .u64 (dgt LB y k : Nat)) := hc k hlt2
        clear hc
        go_wp2
        exact ⟨⟨k + 1, hlt, by go_num, rfl, grownBy_setCell hg (Or.inl rfl) _, (hC2.set_ (o + k) _).congr fun j _ => mix_set hlt (by simp only [Nat.lt_succ_self, if_true]; rfl) (fun j h1 h2 => by
          by_cases h3 : j < k
          · rw [if_pos h3, if_pos (by omega)]
          · rw [if_neg h3, if_neg (by omega)]) j⟩, by simp [intOf]; omega⟩
      · have hd : dgt LB y k = 0 := dgt_big' LB_pos hy (by omega)
        clear hadd
        have hadd := add64_runz x y k hd
        clear hd
        go_wp2
        exact ⟨⟨k + 1, hlt, by go_num, rfl, grownBy_setCell hg (Or.inl rfl) _, (hC2.set_ (o + k) _).congr fun j _ => mix_set hlt (by simp only [Nat.lt_succ_self, if_true]; rfl) (fun j h1 h2 => by
          by_cases h3 : j < k
          · rw [if_pos h3, if_pos (by omega)]
          · rw [if_neg h3, if_neg (by omega)]) j⟩, by simp [intOf]; omega⟩
    · obtain rfl : k = n := by omega
      go_wp2
      go_end0
      exact ⟨rfl, hg, hC2.congr fun j _ => mix_congr (fun i hi => by rw [if_pos hi]) j⟩
set_option maxRecDepth 100000 in
set_option maxHeartbeats 400000 in
theorem take_any (g o n c T n' c' x y : Nat) (A' : Option Addr) (f : Nat → Value) (w : World) (hn : n ≤ 4294967296) (hT : o + n ≤ T) (hC : Cel w g 66 T (mix o n (limb x) f)) (hn' : n' ≤ 4294967296)
    (hy : y < LB ^ n') (hyx : y ≤ x) (hx : x < LB ^ n) (hr : Rd w A' n' (limb y)) (ho : Off A' g) :
    Calls Tryd.prog 100 #[.slice (some ⟨g, o, none⟩) n c, .slice A' n' c'] w fun e w' => e = .returned (.bool true) ∧ w.grownBy w' (some g) ∧ Cel w' g 66 T (mix o n (limb (x - y)) f) := by
  go_enter Tryd.func100, Tryd.ntmps100
  go_wp2
  go_loopw [5, 10] (fun cy i wr => ∃ k : Nat, k ≤ n ∧ i = .int .i64 k ∧ cy = .int .u64 (borrow LB x y k : Nat) ∧ w.grownBy wr (some g) ∧ Cel wr g 66 T (mix o n (fun j => if j < k then limb (x - y) j else limb x j) f))
    (fun _ i _ => n - (intOf i).toNat)
  case atStart => exact ⟨0, Nat.zero_le _, rfl, by rw [borrow_zero]; rfl, World.grownBy.refl _ _, hC.congr fun j _ => mix_congr (fun i _ => by rw [if_neg (by omega)]) j⟩
  case round =>
    obtain ⟨k, hk, rfl, rfl, hg, hC2⟩ := hrel
    by_cases hlt : k < n
    · have g1 : wr.cell? ⟨g, o + k, none⟩ = some (.int .u64 (dgt LB x k : Nat)) := by rw [hC2.cell (by omega), mix_in hlt, if_neg (by omega)]; rfl
      have g2 := hC2.frozen (o + k)
      have hadd := sub64_run x y k hyx
      have hr2 := hr.grown hg ho
      by_cases hlt2 : k < n'
      · obtain ⟨b, off, rfl, hc⟩ := hr2 (by omega)
        have g3 : wr.cell? ⟨b, off + k, none⟩ = some (.int .u64 (dgt LB y k : Nat)) := hc k hlt2
        clear hc
        go_wp2
        exact ⟨⟨k + 1, hlt, by go_num, rfl, grownBy_setCell hg (Or.inl rfl) _, (hC2.set_ (o + k) _).congr fun j _ => mix_set hlt (by simp only [Nat.lt_succ_self, if_true]; rfl) (fun j h1 h2 => by
          by_cases h3 : j < k
          · rw [if_pos h3, if_pos (by omega)]
          · rw [if_neg h3, if_neg (by omega)]) j⟩, by simp [intOf]; omega⟩
      · have hd : dgt LB y k = 0 := dgt_big' LB_pos hy (by omega)
        clear hadd
        have hadd := sub64_runz x y k hyx hd
        clear hd
        go_wp2
        exact ⟨⟨k + 1, hlt, by go_num, rfl, grownBy_setCell hg (Or.inl rfl) _, (hC2.set_ (o + k) _).congr fun j _ => mix_set hlt (by simp only [Nat.lt_succ_self, if_true]; rfl) (fun j h1 h2 => by
          by_cases h3 : j < k
          · rw [if_pos h3, if_pos (by omega)]
          · rw [if_neg h3, if_neg (by omega)]) j⟩, by simp [intOf]; omega⟩
    · obtain rfl : k = n := by omega
      have hb0 : borrow LB x y k = 0 := by unfold borrow; rw [Nat.mod_eq_of_lt hx, Nat.mod_eq_of_lt (Nat.lt_of_le_of_lt hyx hx), if_neg (by omega)]
      rw [hb0]
      clear hb0 hx hy hyx
      go_wp2
      go_ret
      exact ⟨rfl, hg, hC2.congr fun j _ => mix_congr (fun i hi => by rw [if_pos hi]) j⟩

theorem mul_bound {d m : Nat} (hd : d < LB) (hm : m < LB) : d * m ≤ 340282366920938463426481119284349108225 := by
  have := Nat.mul_le_mul (Nat.le_pred_of_lt hd) (Nat.le_pred_of_lt hm)
  exact this
/-- One limb of x + y*m: what the five steps come to. -/
theorem plus_step {d m cy xk : Nat} (hd : d < LB) (hm : m < LB) (hc : cy < LB) (_hx : xk < LB) :
    d * m / 18446744073709551616 + (d * m % 18446744073709551616 + cy) / 18446744073709551616 < LB ∧
    (xk + (d * m % 18446744073709551616 + cy) % 18446744073709551616) % 18446744073709551616 = (xk + d * m + cy) % LB ∧
    d * m / 18446744073709551616 + (d * m % 18446744073709551616 + cy) / 18446744073709551616 + (xk + (d * m % 18446744073709551616 + cy) % 18446744073709551616) / 18446744073709551616 = (xk + d * m + cy) / LB := by
  have h := mul_bound hd hm
  generalize d * m = p at *
  simp only [LB_eq] at *
  refine ⟨?_, ?_, ?_⟩ <;> omega

set_option maxRecDepth 100000 in
set_option maxHeartbeats 400000 in
theorem plus_any (g o n c T n' c' x y m : Nat) (A' : Option Addr) (f : Nat → Value) (w : World) (hn : n ≤ 4294967296) (hT : o + n ≤ T) (hC : Cel w g 66 T (mix o n (limb x) f)) (hn' : n' ≤ 4294967296) (hm : m < LB)
    (hy : y < LB ^ n') (hr : Rd w A' n' (limb y)) (ho : Off A' g) :
    Calls Tryd.prog 102 #[.slice (some ⟨g, o, none⟩) n c, .slice A' n' c', .int .u64 m] w fun e w' => e = .returned (.tuple #[]) ∧ w.grownBy w' (some g) ∧ Cel w' g 66 T (mix o n (limb (x + y * m)) f) := by
  have HM := Lib.hid hm
  clear hm
  go_enter Tryd.func102, Tryd.ntmps102
  go_wp2
  go_loopw [6, 14] (fun cy i wr => ∃ k : Nat, k ≤ n ∧ i = .int .i64 k ∧ cy = .int .u64 (mcarry LB x y m k : Nat) ∧ w.grownBy wr (some g) ∧ Cel wr g 66 T (mix o n (fun j => if j < k then limb (x + y * m) j else limb x j) f))
    (fun _ i _ => n - (intOf i).toNat)
  case atStart => exact ⟨0, Nat.zero_le _, rfl, by rw [mcarry_zero]; rfl, World.grownBy.refl _ _, hC.congr fun j _ => mix_congr (fun i _ => by rw [if_neg (by omega)]) j⟩
  case round =>
    obtain ⟨k, hk, rfl, rfl, hg, hC2⟩ := hrel
    by_cases hlt : k < n
    · have g1 : wr.cell? ⟨g, o + k, none⟩ = some (.int .u64 (dgt LB x k : Nat)) := by rw [hC2.cell (by omega), mix_in hlt, if_neg (by omega)]; rfl
      have g2 := hC2.frozen (o + k)
      have hr2 := hr.grown hg ho
      obtain ⟨d, hd⟩ : ∃ d, d = dgt LB y k := ⟨_, rfl⟩
      have hdl : d < LB := by rw [hd]; exact dgt_lt LB_pos _ _
      obtain ⟨s1, s2, s3⟩ := plus_step hdl HM.out (mcarry_lt LB_pos HM.out x y k) (dgt_lt LB_pos x k)
      have t2 := dgt_addmul LB_pos x y m k
      have t3 := mcarry_succ LB_pos x y m k
      rw [← hd] at t2 t3
      rw [← t2] at s2
      rw [← t3] at s3
      have cm := Tryd.bits_Mul64 d m hdl HM.out wr
      have ca := add64_run0 (d * m % 18446744073709551616) (mcarry LB x y m k) wr
      have cb := add64_run0 (dgt LB x k) ((d * m % 18446744073709551616 + mcarry LB x y m k) % 18446744073709551616) wr
      rw [s2] at cb
      generalize (d * m % 18446744073709551616 + mcarry LB x y m k) % 18446744073709551616 = lo2 at *
      generalize (d * m % 18446744073709551616 + mcarry LB x y m k) / 18446744073709551616 = c2 at *
      generalize (dgt LB x k + lo2) / 18446744073709551616 = c3 at *
      generalize d * m % 18446744073709551616 = lo at *
      generalize d * m / 18446744073709551616 = hi at *
      have w1 : IntKind.u64.wrap ((hi : Int) + (c2 : Int)) = ((hi + c2 : Nat) : Int) := by rw [IntKind.wrap_u64]; rw [LB_eq] at s1; omega
      have h3 := mcarry_lt LB_pos HM.out x y (k + 1)
      obtain ⟨h2, hh2⟩ : ∃ h2, h2 = hi + c2 := ⟨_, rfl⟩
      rw [← hh2] at w1 s3
      have w2 : IntKind.u64.wrap ((h2 : Int) + (c3 : Int)) = ((mcarry LB x y m (k + 1) : Nat) : Int) := by rw [IntKind.wrap_u64, ← s3]; rw [← s3, LB_eq] at h3; omega
      have CM := Lib.hid cm
      clear s1 s2 s3 t2 t3 h3 hh2 cm
      by_cases hlt2 : k < n'
      · obtain ⟨b, off, rfl, hc⟩ := hr2 (by omega)
        have g3 : wr.cell? ⟨b, off + k, none⟩ = some (.int .u64 (d : Nat)) := by rw [hd]; exact hc k hlt2
        clear hc hd hdl
        go_wp2_with (go_at_call 120; refine CM.out.mono ?_; rintro e w' ⟨rfl, rfl⟩)
        exact ⟨⟨k + 1, hlt, by go_num, rfl, grownBy_setCell hg (Or.inl rfl) _, (hC2.set_ (o + k) _).congr fun j _ => mix_set hlt (by simp only [Nat.lt_succ_self, if_true]; rfl) (fun j h1 h2 => by
          by_cases h3 : j < k
          · rw [if_pos h3, if_pos (by omega)]
          · rw [if_neg h3, if_neg (by omega)]) j⟩, by simp [intOf]; omega⟩
      · have hd0 : d = 0 := by rw [hd]; exact dgt_big' LB_pos hy (by omega)
        clear hd hdl
        subst hd0
        have CM0 : Hid (Calls Tryd.prog 120 #[.int .u64 0, .int .u64 m] wr fun e w' => e = .returned (.tuple #[.int .u64 hi, .int .u64 lo]) ∧ w' = wr) := CM
        clear CM
        have CM := CM0
        clear CM0
        go_wp2_with (go_at_call 120; refine CM.out.mono ?_; rintro e w' ⟨rfl, rfl⟩)
        exact ⟨⟨k + 1, hlt, by go_num, rfl, grownBy_setCell hg (Or.inl rfl) _, (hC2.set_ (o + k) _).congr fun j _ => mix_set hlt (by simp only [Nat.lt_succ_self, if_true]; rfl) (fun j h1 h2 => by
          by_cases h3 : j < k
          · rw [if_pos h3, if_pos (by omega)]
          · rw [if_neg h3, if_neg (by omega)]) j⟩, by simp [intOf]; omega⟩
    · obtain rfl : k = n := by omega
      go_wp2
      go_end0
      exact ⟨rfl, hg, hC2.congr fun j _ => mix_congr (fun i hi => by rw [if_pos hi]) j⟩
end Go.Proofs.YtmnmfidcldmhdaaDoor
