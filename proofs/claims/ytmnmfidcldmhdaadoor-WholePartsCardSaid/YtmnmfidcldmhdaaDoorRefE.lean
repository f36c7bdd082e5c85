/- The walks of the document's answers: Plus, Minus. -/
import Derived.Test.YtmnmfidcldmhdaaDoorRefD
namespace Go.Proofs.YtmnmfidcldmhdaaDoor
open Go.RowKit

theorem sum_and_one (m : Nat) (hm : m < 256) (x : Int) (hx : x = (m : Int)) : bits .and .u8 x 1 = ((m % 2 : Nat) : Int) := by
  subst hx; exact u8_and_one m hm

set_option maxRecDepth 100000 in
set_option maxHeartbeats 400000 in
theorem rPlus_any (A A' : Option Addr) (n n' c c' u v up : Nat) (w : World) (hn : n ≤ 4294967296) (hn' : n' ≤ 4294967296) (hup : up ≤ 4294967296) (hu : u < 2 ^ n) (hv : v < 2 ^ n') (hr : Rd w A n (bitv u)) (hr' : Rd w A' n' (bitv v)) :
    Calls Tryd.prog 90 #[.slice A n c, .slice A' n' c', .int .i64 (up : Nat)] w fun e w' => ∃ g N, e = .returned (.slice (some ⟨g, 0, none⟩) N N) ∧ Below w.heap.size w w' ∧ w.heap.size ≤ g ∧
      Rd w' (some ⟨g, 0, none⟩) N (bitv (u + v * 2 ^ up)) ∧ u + v * 2 ^ up < 2 ^ N ∧ N = max n (n' + up) + 1 := by
  obtain ⟨K, hK⟩ : ∃ K, K = max n (n' + up) := ⟨_, rfl⟩
  have hmax : max (n : Int) ((n' : Int) + (up : Int)) = (K : Int) := by omega
  have hKb : K ≤ 8589934592 := by omega
  have hb2 : 1 * (K + 1) ≤ 281474976710656 := by omega
  have hb3 : K + 1 ≤ 9223372036854775807 := by omega
  have hfit : u + v * 2 ^ up < 2 ^ (K + 1) := by
    have h1 : u < 2 ^ K := Nat.lt_of_lt_of_le hu (Nat.pow_le_pow_right (by decide) (by omega))
    have h2 : v * 2 ^ up < 2 ^ (n' + up) := by rw [Nat.pow_add]; exact Nat.mul_lt_mul_of_pos_right hv (Nat.two_pow_pos up)
    have h3 : 2 ^ (n' + up) ≤ 2 ^ K := Nat.pow_le_pow_right (by decide) (by omega)
    rw [Nat.pow_succ]; omega
  have HF := Lib.hid hfit
  have HK := Lib.hid hK
  have HU := Lib.hid hu
  have HV := Lib.hid hv
  have hb2' := Lib.hid hb2
  have hb3' := Lib.hid hb3
  have hYd := dgt2_mul_pow v up
  obtain ⟨Y, hY⟩ : ∃ Y, Y = v * 2 ^ up := ⟨_, rfl⟩
  rw [← hY] at HF hYd ⊢
  have HYD := Lib.hid hYd
  clear hK hfit hu hv hY hb2 hb3 hYd
  go_enter Tryd.func90, Tryd.ntmps90
  go_wp2_with (at_make; refine wpList_make_cel rfl (.tmp 18) (.tmp 18) _ rfl 5 (.int .u8 0) 1 under_bytes info_u8 rfl .i64 .i64 _ _ (K + 1) rfl rfl rfl rfl hb2'.out hb3'.out ?_; intro w1 hC hB hlt)
  go_loopw [8, 9] (fun cy i wr => ∃ k : Nat, k ≤ K + 1 ∧ i = .int .i64 (k : Nat) ∧ cy = .int .u8 (carry 2 u Y k : Nat) ∧ Below w.heap.size w wr ∧ Cel wr w.heap.size 5 (K + 1) (fun j => if j < k then bitv (u + Y) j else .int .u8 0)) (fun _ i _ => K + 1 - (intOf i).toNat)
  case atStart => exact ⟨0, Nat.zero_le _, rfl, by rw [carry_zero]; rfl, hB, hC.congr fun j _ => by rw [if_neg (by omega)]⟩
  case round =>
    obtain ⟨k, hk, rfl, rfl, hB2, hC2⟩ := hrel
    by_cases hlt : k < K + 1
    · have d1 := Lib.hid (rbit_any A n c u k wr (by omega) (by omega) HU.out (hr.below hB2))
      have d2 := Lib.hid (fun (i : Nat) (hi : i ≤ 9223372036854775807) => rbit_any A' n' c' v i wr (by omega) hi HV.out (hr'.below hB2))
      have hB3 := Lib.hid hB2
      have g2 : wr.cell? ⟨w.heap.size, k, none⟩ = some (.int .u8 0) := by rw [hC2.cell (by omega), if_neg (by omega)]
      have g3 := hC2.frozen k
      have hcl := Lib.hid (carry_le (B := 2) (by decide) u Y k)
      have HD := Lib.hid (dgt_add (B := 2) (by decide) u Y k)
      have HC := Lib.hid (carry_succ (B := 2) (by decide) u Y k)
      have hset := Lib.hid (hC2.set_ k (bitv (u + Y) k))
      have ha : dgt 2 u k < 2 := dgt_lt (by decide) _ _
      have hcy : carry 2 u Y k < 2 := by have := hcl.out; omega
      by_cases hge : up ≤ k
      · obtain ⟨m, hm⟩ : ∃ m, k = up + m := ⟨k - up, by omega⟩
        have hyd := HYD.out k
        rw [if_pos hge, show k - up = m by omega] at hyd
        have hb : dgt 2 v m < 2 := dgt_lt (by decide) _ _
        have hkm : (k : Int) - (up : Int) = (m : Int) := by omega
        have hge' : (up : Int) ≤ (k : Int) := by omega
        have hm2 : m ≤ 9223372036854775807 := by omega
        have d3 := Lib.hid (d2.out m hm2)
        have HDD := HD.out
        have HCC := HC.out
        rw [hyd] at HDD HCC
        have hand : bits .and .u8 (((dgt 2 u k : Nat) : Int) + ((carry 2 u Y k : Nat) : Int) + ((dgt 2 v m : Nat) : Int)) 1 = ((dgt 2 (u + Y) k : Nat) : Int) := by
          rw [HDD, sum_and_one (dgt 2 u k + dgt 2 v m + carry 2 u Y k) (by omega) _ (by omega)]
        have hsh : (((dgt 2 u k : Nat) : Int) + ((carry 2 u Y k : Nat) : Int) + ((dgt 2 v m : Nat) : Int)) / 2 = ((carry 2 u Y (k + 1) : Nat) : Int) := by
          rw [HCC]; omega
        clear HDD HCC hyd hm hge hC2 hB2
        go_wp2_with fail
        refine d1.out.mono ?_
        rintro e w' ⟨rfl, rfl⟩
        go_wp2_with fail
        refine d3.out.mono ?_
        rintro e w' ⟨rfl, rfl⟩
        go_wp2
        refine ⟨⟨k + 1, hlt, by go_num, rfl, hB3.out.setCell (Nat.le_refl _) _, hset.out.congr fun j hj => ?_⟩, by simp [intOf]; omega⟩
        by_cases e : j = k
        · subst e; simp only [if_true]; rw [if_pos (by omega)]
        · simp only [if_neg e]
          by_cases e2 : j < k
          · rw [if_pos e2, if_pos (by omega)]
          · rw [if_neg e2, if_neg (by omega)]
      · have hyd := HYD.out k
        rw [if_neg hge] at hyd
        have hge' : ¬ (up : Int) ≤ (k : Int) := by omega
        have HDD := HD.out
        have HCC := HC.out
        rw [hyd] at HDD HCC
        have hand : bits .and .u8 (((dgt 2 u k : Nat) : Int) + ((carry 2 u Y k : Nat) : Int)) 1 = ((dgt 2 (u + Y) k : Nat) : Int) := by
          rw [HDD, sum_and_one (dgt 2 u k + 0 + carry 2 u Y k) (by omega) _ (by omega)]
        have hsh : (((dgt 2 u k : Nat) : Int) + ((carry 2 u Y k : Nat) : Int)) / 2 = ((carry 2 u Y (k + 1) : Nat) : Int) := by
          rw [HCC]; omega
        clear HDD HCC hyd hge hC2 hB2
        go_wp2_with fail
        refine d1.out.mono ?_
        rintro e w' ⟨rfl, rfl⟩
        go_wp2
        refine ⟨⟨k + 1, hlt, by go_num, rfl, hB3.out.setCell (Nat.le_refl _) _, hset.out.congr fun j hj => ?_⟩, by simp [intOf]; omega⟩
        by_cases e : j = k
        · subst e; simp only [if_true]; rw [if_pos (by omega)]
        · simp only [if_neg e]
          by_cases e2 : j < k
          · rw [if_pos e2, if_pos (by omega)]
          · rw [if_neg e2, if_neg (by omega)]
    · obtain rfl : k = K + 1 := by omega
      have hrd := (hC2.rd (o := 0) (n := K + 1) (by omega)).congr (f' := bitv (u + Y)) (fun j hj => by simp only [Nat.zero_add]; rw [if_pos hj])
      have HR := Lib.hid hrd
      clear hrd hC2
      go_wp2
      go_ret
      exact ⟨_, _, rfl, hB2, Nat.le_refl _, HR.out, HF.out, by rw [HK.out]⟩
set_option maxRecDepth 100000 in
set_option maxHeartbeats 400000 in
theorem rMinus_any (A A' : Option Addr) (n n' c c' u v : Nat) (w : World) (hn : n ≤ 17179869184) (hn' : n' ≤ 17179869184) (hu : u < 2 ^ n) (hv : v < 2 ^ n') (hvu : v ≤ u) (hr : Rd w A n (bitv u)) (hr' : Rd w A' n' (bitv v)) :
    Calls Tryd.prog 87 #[.slice A n c, .slice A' n' c'] w fun e w' => ∃ g, e = .returned (.slice (some ⟨g, 0, none⟩) n n) ∧ Below w.heap.size w w' ∧ w.heap.size ≤ g ∧ Rd w' (some ⟨g, 0, none⟩) n (bitv (u - v)) := by
  have hb2 : 1 * n ≤ 281474976710656 := by omega
  have hb3 : n ≤ 9223372036854775807 := by omega
  have HU := Lib.hid hu
  have HV := Lib.hid hv
  have HVU := Lib.hid hvu
  have hb2' := Lib.hid hb2
  have hb3' := Lib.hid hb3
  clear hu hv hb2 hb3 hvu
  go_enter Tryd.func87, Tryd.ntmps87
  go_wp2_with (at_make; refine wpList_make_cel rfl (.tmp 10) (.tmp 10) _ rfl 5 (.int .u8 0) 1 under_bytes info_u8 rfl .i64 .i64 _ _ n rfl rfl rfl rfl hb2'.out hb3'.out ?_; intro w1 hC hB hlt)
  go_loopw [6, 7] (fun cy i wr => ∃ k : Nat, k ≤ n ∧ i = .int .i64 (k : Nat) ∧ cy = .int .u8 (borrow 2 u v k : Nat) ∧ Below w.heap.size w wr ∧ Cel wr w.heap.size 5 n (fun j => if j < k then bitv (u - v) j else .int .u8 0)) (fun _ i _ => n - (intOf i).toNat)
  case atStart => exact ⟨0, Nat.zero_le _, rfl, by rw [borrow_zero]; rfl, hB, hC.congr fun j _ => by rw [if_neg (by omega)]⟩
  case round =>
    obtain ⟨k, hk, rfl, rfl, hB2, hC2⟩ := hrel
    by_cases hlt : k < n
    · have d1 := Lib.hid (rbit_any A n c u k wr (by omega) (by omega) HU.out (hr.below hB2))
      have d2 := Lib.hid (rbit_any A' n' c' v k wr (by omega) (by omega) HV.out (hr'.below hB2))
      have hB3 := Lib.hid hB2
      have g2 : wr.cell? ⟨w.heap.size, k, none⟩ = some (.int .u8 0) := by rw [hC2.cell (by omega), if_neg (by omega)]
      have g3 := hC2.frozen k
      have hcl := Lib.hid (borrow_le 2 u v k)
      have HDD := dgt_sub (B := 2) (by decide) HVU.out k
      have HCC := borrow_succ (B := 2) (by decide) u v k
      have hset := Lib.hid (hC2.set_ k (bitv (u - v) k))
      have ha : dgt 2 u k < 2 := dgt_lt (by decide) _ _
      have hb : dgt 2 v k < 2 := dgt_lt (by decide) _ _
      have hcy : borrow 2 u v k < 2 := by have := hcl.out; omega
      obtain ⟨q, hq⟩ : ∃ q, q = (2 + dgt 2 u k - dgt 2 v k - borrow 2 u v k) / 2 := ⟨_, rfl⟩
      have hand : bits .and .u8 (2 + ((dgt 2 u k : Nat) : Int) - ((dgt 2 v k : Nat) : Int) - ((borrow 2 u v k : Nat) : Int)) 1 = ((dgt 2 (u - v) k : Nat) : Int) := by
        rw [HDD, sum_and_one (dgt 2 u k + 2 - dgt 2 v k - borrow 2 u v k) (by omega) _ (by omega)]
      have hsh : (2 + ((dgt 2 u k : Nat) : Int) - ((dgt 2 v k : Nat) : Int) - ((borrow 2 u v k : Nat) : Int)) / 2 = (q : Int) := by omega
      have hq2 : q ≤ 1 := by omega
      have hfin : 1 - (q : Int) = ((borrow 2 u v (k + 1) : Nat) : Int) := by
        rw [HCC]; split <;> omega
      clear HDD HCC hC2 hB2 hq
      go_wp2_with fail
      refine d1.out.mono ?_
      rintro e w' ⟨rfl, rfl⟩
      go_wp2_with fail
      refine d2.out.mono ?_
      rintro e w' ⟨rfl, rfl⟩
      go_wp2
      refine ⟨⟨k + 1, hlt, by go_num, rfl, hB3.out.setCell (Nat.le_refl _) _, hset.out.congr fun j hj => ?_⟩, by simp [intOf]; omega⟩
      by_cases e : j = k
      · subst e; simp only [if_true]; rw [if_pos (by omega)]
      · simp only [if_neg e]
        by_cases e2 : j < k
        · rw [if_pos e2, if_pos (by omega)]
        · rw [if_neg e2, if_neg (by omega)]
    · obtain rfl : k = n := by omega
      have hrd := (hC2.rd (o := 0) (n := k) (by omega)).congr (f' := bitv (u - v)) (fun j hj => by simp only [Nat.zero_add]; rw [if_pos hj])
      have HR := Lib.hid hrd
      clear hrd hC2
      go_wp2
      go_ret
      exact ⟨_, rfl, hB2, Nat.le_refl _, HR.out⟩
end Go.Proofs.YtmnmfidcldmhdaaDoor
