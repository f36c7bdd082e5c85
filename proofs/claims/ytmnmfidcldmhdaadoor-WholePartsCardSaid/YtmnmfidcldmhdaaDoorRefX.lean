/- The walks of the document's answers for whole numbers: Add, Mul, Pow. -/
import Derived.Test.YtmnmfidcldmhdaaDoorRefW
import Derived.Test.YtmnmfidcldmhdaaDoorWholeD
namespace Go.Proofs.YtmnmfidcldmhdaaDoor
open Go.RowKit

set_option maxRecDepth 100000 in
set_option maxHeartbeats 400000 in
theorem rWAdd_any (A : Option Addr) (n c : Nat) (bs : Nat → Bool) (ss : Nat → ByteArray) (w : World) (hn : n ≤ 1048576) (hs : ∀ j, (ss j).size ≤ 8388608) (hr : RdI w A n bs ss) :
    Calls Tryd.prog 16 #[.slice A n c] w fun e w' => e = .returned (.agg #[.bool (neg (sumI (fun j => ival (bs j) (sval (ss j))) n)), .string (mag (sumI (fun j => ival (bs j) (sval (ss j))) n))]) ∧ Below w.heap.size w w' := by
  have HS := Lib.hid (fun j => Nat.le_trans (hs j) (show 8388608 ≤ 16777216 by decide))
  have HB := Lib.hid (show ∀ k, k ≤ n → bsz (sumI (fun j => ival (bs j) (sval (ss j))) k) ≤ 16777216 from fun k hk => by
    have h1 := bsz_sumI (f := fun j => ival (bs j) (sval (ss j))) (S := 8388608) (fun j => Nat.le_trans (bsz_ival _ _) (hs j)) k
    omega)
  clear hs
  go_enter Tryd.func16, Tryd.ntmps16
  have X1 := (Bx.new w 26 #[.bool false, .string ⟨#[]⟩]).alloc (.cells #[.bool false, .string ⟨#[]⟩] 26)
  have X2 := Bx.at1 w (.cells #[.bool false, .string ⟨#[]⟩] 26) 26 #[.bool false, .string ⟨#[]⟩]
  have hB := b2 w (.cells #[.bool false, .string ⟨#[]⟩] 26) (.cells #[.bool false, .string ⟨#[]⟩] 26)
  go_wp2_with fail
  generalize (w.alloc (.cells #[.bool false, .string ⟨#[]⟩] 26)).alloc (.cells #[.bool false, .string ⟨#[]⟩] 26) = w0 at *
  go_loopw [4] (fun i wr => ∃ k : Nat, k ≤ n ∧ i = .int .i64 (k : Nat) ∧ Bx wr w.heap.size 26 #[.bool false, .string ⟨#[]⟩] ∧ Bx wr (w.heap.size + 1) 26 #[.bool (neg (sumI (fun j => ival (bs j) (sval (ss j))) k)), .string (mag (sumI (fun j => ival (bs j) (sval (ss j))) k))] ∧ Below w.heap.size w wr) (fun i _ => n - (intOf i).toNat)
  case atStart => exact ⟨0, Nat.zero_le _, rfl, X1, X2, hB⟩
  case round =>
    obtain ⟨k, hk, rfl, Y1, Y2, hB2⟩ := hrel
    obtain ⟨p1, p2, p3, p4⟩ := Y1.two
    obtain ⟨q1, q2, q3, q4⟩ := Y2.two
    by_cases hlt : k < n
    · obtain ⟨b, off, rfl, hc⟩ := hr (by omega)
      have g1 := cell_later hB2 (hc k hlt).1
      have g2 := cell_later hB2 (hc k hlt).2
      clear hc hr
      have hsz := HS.out k
      have hbz := HB.out k hk
      have HD := Lib.hid (show sumI (fun j => ival (bs j) (sval (ss j))) (k + 1) = sumI (fun j => ival (bs j) (sval (ss j))) k + ival (bs k) (sval (ss k)) from rfl)
      have hms : (mag (sumI (fun j => ival (bs j) (sval (ss j))) k)).size ≤ 16777216 := by rw [mag_size]; exact hbz
      have cp := Lib.hid (fun W => rPlusW_any (mag (sumI (fun j => ival (bs j) (sval (ss j))) k)) (ss k) (neg (sumI (fun j => ival (bs j) (sval (ss j))) k)) (bs k) W hms hsz)
      rw [ival_mk, ← HD.out] at cp
      clear hsz hbz hms
      obtain ⟨S1, hS1⟩ : ∃ S1, S1 = sumI (fun j => ival (bs j) (sval (ss j))) (k + 1) := ⟨_, rfl⟩
      rw [← hS1] at cp
      have H1 := Lib.hid hS1
      clear hS1
      go_wp2_with fail
      go_still_tail 5, (by kernel_rfl)
      change wpList _ _ _ _ _ wr.drew
      have Z1 := Y1.drew
      have Z2 := Y2.drew
      have hB3 := hB2.drew
      clear Y1 Y2 hB2 p1 p2 p3 p4 q1 q2 q3 q4 g1 g2
      generalize wr.drew = w5 at *
      go_wp2_with fail
      refine (cp.out _).mono ?_
      rintro e w6 ⟨rfl, hb⟩
      replace Z1 := Z1.later hb
      replace Z2 := Z2.later hb
      replace hB3 := nxt hB3 hb
      clear hb
      obtain ⟨q1, q2, q3, q4⟩ := Z2.two
      go_wp2
      exact ⟨⟨k + 1, hlt, by go_num, Z1.far2 (by simp) _ _, by rw [← H1.out]; exact Z2.set2 _ _, st2 hB3 (Nat.le_add_right _ 1) _ _⟩, by simp [intOf]; omega⟩
    · obtain rfl : k = n := by omega
      go_wp2
      exact bodyPost_ret (v := .agg #[.bool (neg (sumI (fun j => ival (bs j) (sval (ss j))) k)), .string (mag (sumI (fun j => ival (bs j) (sval (ss j))) k))]) (by simp [results, Tryd.results16, go_sem, (Y1.set2 _ _).cel]) rfl ⟨rfl, st2 hB2 (Nat.le_refl _) _ _⟩

set_option maxRecDepth 100000 in
set_option maxHeartbeats 400000 in
theorem rWMul_any (A : Option Addr) (n c : Nat) (bs : Nat → Bool) (ss : Nat → ByteArray) (w : World) (S : Nat) (hn : n ≤ 1048576) (hS : S ≤ 16777216) (hs0 : ∀ j, (ss j).size ≤ S) (hSn : S * n ≤ 16777215) (hr : RdI w A n bs ss) :
    Calls Tryd.prog 22 #[.slice A n c] w fun e w' => e = .returned (.agg #[.bool (neg (prodI (fun j => ival (bs j) (sval (ss j))) n)), .string (mag (prodI (fun j => ival (bs j) (sval (ss j))) n))]) ∧ Below w.heap.size w w' := by
  have HS := Lib.hid (fun j => Nat.le_trans (hs0 j) hS)
  have HB := Lib.hid (show ∀ k, k ≤ n → bsz (prodI (fun j => ival (bs j) (sval (ss j))) k) ≤ 16777216 from fun k hk => by
    have h1 := bsz_prodI (f := fun j => ival (bs j) (sval (ss j))) (S := S) (fun j => Nat.le_trans (bsz_ival _ _) (hs0 j)) k
    have h2 : S * k ≤ S * n := Nat.mul_le_mul_left _ hk
    omega)
  clear hs0 hSn
  have c1 := Lib.hid (fun W => rWOf_any 1 W (by decide) (by decide))
  go_enter Tryd.func22, Tryd.ntmps22
  have X1 := Bx.new w 26 #[.bool false, .string ⟨#[]⟩]
  have hB := b1 w (.cells #[.bool false, .string ⟨#[]⟩] 26)
  go_wp2_with fail
  refine (c1.out _).mono ?_
  rintro e w2 ⟨rfl, hb⟩
  replace X1 := X1.later hb
  replace hB := nxt hB hb
  clear hb
  have hg : w.heap.size < w2.heap.size := X1.lt
  have X2 := Bx.new w2 26 #[.bool (neg (1)), .string (mag (1))]
  replace X1 := X1.alloc (.cells #[.bool (neg (1)), .string (mag (1))] 26)
  replace hB := nxtA hB (.cells #[.bool (neg (1)), .string (mag (1))] 26)
  go_wp2_with fail
  generalize w2.alloc (.cells #[.bool (neg (1)), .string (mag (1))] 26) = w0 at *
  generalize w2.heap.size = g at *
  go_loopw [4] (fun i wr => ∃ k : Nat, k ≤ n ∧ i = .int .i64 (k : Nat) ∧ Bx wr w.heap.size 26 #[.bool false, .string ⟨#[]⟩] ∧ Bx wr g 26 #[.bool (neg (prodI (fun j => ival (bs j) (sval (ss j))) k)), .string (mag (prodI (fun j => ival (bs j) (sval (ss j))) k))] ∧ Below w.heap.size w wr) (fun i _ => n - (intOf i).toNat)
  case atStart => exact ⟨0, Nat.zero_le _, rfl, X1, X2, hB⟩
  case round =>
    obtain ⟨k, hk, rfl, Y1, Y2, hB2⟩ := hrel
    obtain ⟨p1, p2, p3, p4⟩ := Y1.two
    obtain ⟨q1, q2, q3, q4⟩ := Y2.two
    by_cases hlt : k < n
    · obtain ⟨b, off, rfl, hc⟩ := hr (by omega)
      have g1 := cell_later hB2 (hc k hlt).1
      have g2 := cell_later hB2 (hc k hlt).2
      clear hc hr
      have hsz := HS.out k
      have hbz := HB.out k hk
      have HD := Lib.hid (show prodI (fun j => ival (bs j) (sval (ss j))) (k + 1) = prodI (fun j => ival (bs j) (sval (ss j))) k * ival (bs k) (sval (ss k)) from rfl)
      have hms : (mag (prodI (fun j => ival (bs j) (sval (ss j))) k)).size ≤ 16777216 := by rw [mag_size]; exact hbz
      have cp := Lib.hid (fun W => rTimes_any (mag (prodI (fun j => ival (bs j) (sval (ss j))) k)) (ss k) (neg (prodI (fun j => ival (bs j) (sval (ss j))) k)) (bs k) W hms hsz)
      rw [ival_mk, ← HD.out] at cp
      clear hsz hbz hms
      obtain ⟨S1, hS1⟩ : ∃ S1, S1 = prodI (fun j => ival (bs j) (sval (ss j))) (k + 1) := ⟨_, rfl⟩
      rw [← hS1] at cp
      have H1 := Lib.hid hS1
      clear hS1
      go_wp2_with fail
      go_still_tail 5, (by kernel_rfl)
      change wpList _ _ _ _ _ wr.drew
      have Z1 := Y1.drew
      have Z2 := Y2.drew
      have hB3 := hB2.drew
      clear Y1 Y2 hB2 p1 p2 p3 p4 q1 q2 q3 q4 g1 g2
      generalize wr.drew = w5 at *
      go_wp2_with fail
      refine (cp.out _).mono ?_
      rintro e w6 ⟨rfl, hb⟩
      replace Z1 := Z1.later hb
      replace Z2 := Z2.later hb
      replace hB3 := nxt hB3 hb
      clear hb
      obtain ⟨q1, q2, q3, q4⟩ := Z2.two
      go_wp2
      exact ⟨⟨k + 1, hlt, by go_num, Z1.far2 (Nat.ne_of_lt hg) _ _, by rw [← H1.out]; exact Z2.set2 _ _, st2 hB3 (Nat.le_of_lt hg) _ _⟩, by simp [intOf]; omega⟩
    · obtain rfl : k = n := by omega
      go_wp2
      exact bodyPost_ret (v := .agg #[.bool (neg (prodI (fun j => ival (bs j) (sval (ss j))) k)), .string (mag (prodI (fun j => ival (bs j) (sval (ss j))) k))]) (by simp [results, Tryd.results22, go_sem, (Y1.set2 _ _).cel]) rfl ⟨rfl, st2 hB2 (Nat.le_refl _) _ _⟩

set_option maxRecDepth 100000 in
set_option maxHeartbeats 400000 in
theorem rWPow_any (s : ByteArray) (b : Bool) (n : Int) (w : World) (hs : s.size * n.toNat ≤ 16777215) (hs2 : s.size ≤ 16777216) (hn : n ≤ 9223372036854775807) (hn2 : -9223372036854775808 ≤ n) :
    Calls Tryd.prog 24 #[.agg #[.bool b, .string s], .int .i64 n] w fun e w' => e = .returned (.agg #[.bool (neg ((ival b (sval s)) ^ n.toNat)), .string (mag ((ival b (sval s)) ^ n.toNat))]) ∧ Below w.heap.size w w' := by
  obtain ⟨N, hN⟩ : ∃ N, N = n.toNat := ⟨_, rfl⟩
  have hNb : N ≤ 9223372036854775807 := by omega
  rw [← hN] at hs ⊢
  have HZ := Lib.hid (show ∀ k, k ≤ N → bsz (ival b (sval s) ^ k) ≤ 16777216 from fun k hk => by
    have h1 := bsz_pow_le (bsz_ival b s) k
    have h2 : s.size * k ≤ s.size * N := Nat.mul_le_mul_left _ hk
    omega)
  have HN := Lib.hid hN
  clear hN hs
  have c1 := Lib.hid (fun W => rWOf_any 1 W (by decide) (by decide))
  go_enter Tryd.func24, Tryd.ntmps24
  have X1 := (Bx.new w 26 #[.bool b, .string s]).alloc (.cells #[.bool false, .string ⟨#[]⟩] 26)
  have X2 := Bx.at1 w (.cells #[.bool b, .string s] 26) 26 #[.bool false, .string ⟨#[]⟩]
  have hB := b2 w (.cells #[.bool b, .string s] 26) (.cells #[.bool false, .string ⟨#[]⟩] 26)
  go_wp2_with fail
  refine (c1.out _).mono ?_
  rintro e w2 ⟨rfl, hb⟩
  replace X1 := X1.later hb
  replace X2 := X2.later hb
  replace hB := nxt hB hb
  clear hb
  have hg : w.heap.size + 1 < w2.heap.size := X2.lt
  have X3 := Bx.new w2 26 #[.bool (neg (1)), .string (mag (1))]
  replace X1 := X1.alloc (.cells #[.bool (neg (1)), .string (mag (1))] 26)
  replace X2 := X2.alloc (.cells #[.bool (neg (1)), .string (mag (1))] 26)
  replace hB := nxtA hB (.cells #[.bool (neg (1)), .string (mag (1))] 26)
  go_wp2_with fail
  generalize w2.alloc (.cells #[.bool (neg (1)), .string (mag (1))] 26) = w0 at *
  generalize w2.heap.size = g at *
  have hg1 : w.heap.size < g := by omega
  go_loopw [6] (fun i wr => ∃ k : Nat, k ≤ N ∧ i = .int .i64 (k : Nat) ∧ Bx wr w.heap.size 26 #[.bool b, .string s] ∧ Bx wr (w.heap.size + 1) 26 #[.bool false, .string ⟨#[]⟩] ∧ Bx wr g 26 #[.bool (neg ((ival b (sval s)) ^ k)), .string (mag ((ival b (sval s)) ^ k))] ∧ Below w.heap.size w wr) (fun i _ => N - (intOf i).toNat)
  case atStart => exact ⟨0, Nat.zero_le _, rfl, X1, X2, (by rw [Int.pow_zero]; exact X3), hB⟩
  case round =>
    obtain ⟨k, hk, rfl, Y1, Y2, Y3, hB2⟩ := hrel
    obtain ⟨p1, p2, _, _⟩ := Y1.two
    obtain ⟨v1, v2, v3, v4⟩ := Y2.two
    obtain ⟨q1, q2, q3, q4⟩ := Y3.two
    by_cases hlt : k < N
    · have hltn : (k : Int) < n := by have := HN.out; omega
      have hbz := HZ.out k hk
      have HD := Lib.hid (show ival b (sval s) ^ (k + 1) = ival b (sval s) ^ k * ival b (sval s) from Int.pow_succ _ _)
      have hms : (mag (ival b (sval s) ^ k)).size ≤ 16777216 := by rw [mag_size]; exact hbz
      have cp := Lib.hid (fun W => rTimes_any (mag (ival b (sval s) ^ k)) s (neg (ival b (sval s) ^ k)) b W hms hs2)
      rw [ival_mk, ← HD.out] at cp
      clear hbz hms
      obtain ⟨S1, hS1⟩ : ∃ S1, S1 = ival b (sval s) ^ (k + 1) := ⟨_, rfl⟩
      rw [← hS1] at cp
      have H1 := Lib.hid hS1
      clear hS1
      go_wp2_with fail
      refine (cp.out _).mono ?_
      rintro e w6 ⟨rfl, hb⟩
      replace Y1 := Y1.later hb
      replace Y2 := Y2.later hb
      replace Y3 := Y3.later hb
      replace hB2 := nxt hB2 hb
      clear hb p1 p2 v1 v2 v3 v4 q1 q2 q3 q4
      obtain ⟨q1, q2, q3, q4⟩ := Y3.two
      go_wp2
      exact ⟨⟨k + 1, hlt, by go_num, Y1.far2 (Nat.ne_of_lt hg1) _ _, Y2.far2 (Nat.ne_of_lt hg) _ _, by rw [← H1.out]; exact Y3.set2 _ _, st2 hB2 (Nat.le_of_lt hg1) _ _⟩, by simp [intOf]; omega⟩
    · obtain rfl : k = N := by omega
      have hltn : ¬ (k : Int) < n := by have := HN.out; omega
      go_wp2
      exact bodyPost_ret (v := .agg #[.bool (neg ((ival b (sval s)) ^ k)), .string (mag ((ival b (sval s)) ^ k))]) (by simp [results, Tryd.results24, go_sem, (Y2.set2 _ _).cel]) rfl ⟨rfl, st2 hB2 (Nat.le_add_right _ 1) _ _⟩

end Go.Proofs.YtmnmfidcldmhdaaDoor
