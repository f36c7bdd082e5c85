/- The walks of ogeelaw02.long, WholeDivs: it answers true. -/
import Derived.Test.YtmnmfidcldmhdaaDoorWAwake
namespace Go.Proofs.YtmnmfidcldmhdaaDoor
open Go.RowKit

set_option maxRecDepth 100000 in
set_option maxHeartbeats 400000 in
theorem long_no (A : Option Addr) (n c : Nat) (bs : Nat → Bool) (ss : Nat → ByteArray) (m : Int) (w : World) (hn : n ≤ 4611686018427387904) (hs : ∀ j, j < n → ((ss j).size : Int) ≤ m) (hr : RdI w A n bs ss) :
    Calls Tryd.prog 13 #[.int .i64 m, .slice A n c] w fun e w' => e = .returned (.bool false) ∧ w = w' := by
  have HS := Lib.hid hs
  clear hs
  go_enter Tryd.func13, Tryd.ntmps13
  go_wp2_with fail
  go_loop [5] (fun i => ∃ k : Nat, k ≤ n ∧ i = .int .i64 (k : Nat)) (fun i => n - (intOf i).toNat)
  case atStart => exact ⟨0, Nat.zero_le _, rfl⟩
  case round =>
    obtain ⟨k, hk, rfl⟩ := hrel
    by_cases hlt : k < n
    · obtain ⟨b, off, rfl, hc⟩ := hr (by omega)
      have g1 := (hc k hlt).1
      have g2 := (hc k hlt).2
      have h0 := HS.out k hlt
      clear hc hr
      go_wp2
      exact ⟨⟨k + 1, hlt, by go_num⟩, by simp [intOf]; omega⟩
    · obtain rfl : k = n := by omega
      go_wp2
      go_ret
      exact ⟨rfl, rfl⟩
set_option maxRecDepth 100000 in
set_option maxHeartbeats 400000 in
theorem long_yes (A : Option Addr) (n c : Nat) (bs : Nat → Bool) (ss : Nat → ByteArray) (m : Int) (w : World) (hn : n ≤ 4611686018427387904) (k0 : Nat) (hk0 : k0 < n) (hs : m < ((ss k0).size : Int)) (hr : RdI w A n bs ss) :
    Calls Tryd.prog 13 #[.int .i64 m, .slice A n c] w fun e w' => e = .returned (.bool true) ∧ w = w' := by
  go_enter Tryd.func13, Tryd.ntmps13
  go_wp2_with fail
  go_loop [5] (fun i => ∃ k : Nat, k ≤ k0 ∧ i = .int .i64 (k : Nat)) (fun i => n - (intOf i).toNat)
  case atStart => exact ⟨0, Nat.zero_le _, rfl⟩
  case round =>
    obtain ⟨k, hk, rfl⟩ := hrel
    obtain ⟨b, off, rfl, hc⟩ := hr (by omega)
    have g1 := (hc k (by omega)).1
    have g2 := (hc k (by omega)).2
    clear hc hr
    have hlt : k < n := by omega
    by_cases e : k = k0
    · subst e
      go_wp2
      go_ret
      exact ⟨rfl, rfl⟩
    · by_cases h1 : m < ((ss k).size : Int)
      · go_wp2
        go_ret
        exact ⟨rfl, rfl⟩
      · go_wp2
        exact ⟨⟨k + 1, by omega, by go_num⟩, by simp [intOf]; omega⟩
theorem long2_no (s t : ByteArray) (b b' : Bool) (m : Int) (w : World) (hs : (s.size : Int) ≤ m) (ht : (t.size : Int) ≤ m) :
    Calls Tryd.prog 13 #[.int .i64 m, .slice (some ⟨w.heap.size, 0, none⟩) 2 2] (w.alloc (.cells #[.bool b, .string s, .bool b', .string t] 26)) fun e w' => e = .returned (.bool false) ∧ w.alloc (.cells #[.bool b, .string s, .bool b', .string t] 26) = w' :=
  long_no _ 2 2 _ _ m _ (by decide) (fun j _ => by split <;> assumption) (rdI2 w s t b b')
theorem long2_yes (s t : ByteArray) (b b' : Bool) (m : Int) (w : World) (hs : m < (s.size : Int) ∨ m < (t.size : Int)) :
    Calls Tryd.prog 13 #[.int .i64 m, .slice (some ⟨w.heap.size, 0, none⟩) 2 2] (w.alloc (.cells #[.bool b, .string s, .bool b', .string t] 26)) fun e w' => e = .returned (.bool true) ∧ w.alloc (.cells #[.bool b, .string s, .bool b', .string t] 26) = w' := by
  rcases hs with h | h
  · exact long_yes _ 2 2 _ _ m _ (by decide) 0 (by decide) h (rdI2 w s t b b')
  · exact long_yes _ 2 2 _ _ m _ (by decide) 1 (by decide) h (rdI2 w s t b b')

set_option maxRecDepth 100000 in
set_option maxHeartbeats 2000000 in
theorem wholeDivs_any (s t : ByteArray) (b b' : Bool) (w : World) (hT : TabAt 0 Lib.deBruijn64tab w) :
    Calls Tryd.prog 5 #[.agg #[.bool b, .string s], .agg #[.bool b', .string t]] w fun e w' => e = .returned (.bool true) ∧ Below w.heap.size w w' := by
  have HA := Lib.hid (fun W (h : Below w.heap.size w W) => wawake_any W (tab_keep hT h))
  clear hT
  by_cases hbig : (60 : Int) < (s.size : Int) ∨ (60 : Int) < (t.size : Int)
  · have cl := Lib.hid (fun W => long2_yes s t b b' 60 W hbig)
    clear hbig
    go_enter Tryd.func5, Tryd.ntmps5
    go_upto_region 1 with (fail)
    have X1 := (Bx.new w 26 #[.bool b, .string s]).alloc (.cells #[.bool b', .string t] 26)
    have X2 := Bx.at1 w (.cells #[.bool b, .string s] 26) 26 #[.bool b', .string t]
    have hB := b2 w (.cells #[.bool b, .string s] 26) (.cells #[.bool b', .string t] 26)
    generalize (w.alloc (.cells #[.bool b, .string s] 26)).alloc (.cells #[.bool b', .string t] 26) = w0 at *
    have hl0 := X1.lt
    have hl1 := X2.lt
    obtain ⟨p1, p2, _, _⟩ := X1.two
    obtain ⟨q1, q2, _, _⟩ := X2.two
    go_wp2_with fail
    refine (cl.out w0).mono ?_
    rintro e w1 ⟨rfl, rfl⟩
    replace hB := nxtA hB (.cells #[.bool b, .string s, .bool b', .string t] 26)
    go_wp2_with fail
    refine (HA.out _ hB).mono ?_
    rintro e w2 ⟨rfl, hb⟩
    go_wp2
    go_ret
    exact ⟨rfl, nxt hB hb⟩
  have hs1 : (s.size : Int) ≤ 60 := by omega
  have ht1 : (t.size : Int) ≤ 60 := by omega
  have cl := Lib.hid (fun W => long2_no s t b b' 60 W hs1 ht1)
  have cD := Lib.hid (fun W => wDiv_any s t b b' W (by omega) (by omega))
  have cE := Lib.hid (fun W => rWDiv_any s t b b' W (by omega) (by omega))
  clear hbig hs1 ht1
  by_cases h0 : sval t = 0
  · simp only [if_pos h0] at cD cE
    clear h0
    go_enter Tryd.func5, Tryd.ntmps5
    go_upto_region 1 with (fail)
    have X1 := (Bx.new w 26 #[.bool b, .string s]).alloc (.cells #[.bool b', .string t] 26)
    have X2 := Bx.at1 w (.cells #[.bool b, .string s] 26) 26 #[.bool b', .string t]
    have hB := b2 w (.cells #[.bool b, .string s] 26) (.cells #[.bool b', .string t] 26)
    generalize (w.alloc (.cells #[.bool b, .string s] 26)).alloc (.cells #[.bool b', .string t] 26) = w0 at *
    have hl0 := X1.lt
    have hl1 := X2.lt
    obtain ⟨p1, p2, _, _⟩ := X1.two
    obtain ⟨q1, q2, _, _⟩ := X2.two
    go_wp2_with fail
    refine (cl.out w0).mono ?_
    rintro e w1 ⟨rfl, rfl⟩
    replace X1 := X1.alloc (.cells #[.bool b, .string s, .bool b', .string t] 26)
    replace X2 := X2.alloc (.cells #[.bool b, .string s, .bool b', .string t] 26)
    replace hB := nxtA hB (.cells #[.bool b, .string s, .bool b', .string t] 26)
    clear p1 p2 q1 q2
    obtain ⟨p1, p2, _, _⟩ := X1.two
    obtain ⟨q1, q2, _, _⟩ := X2.two
    generalize w0.alloc (.cells #[.bool b, .string s, .bool b', .string t] 26) = w2 at *
    go_wp2_with fail
    refine (cD.out _).mono ?_
    rintro e w3 ⟨rfl, hb⟩
    replace X1 := X1.later hb
    replace X2 := X2.later hb
    replace hB := nxt hB hb
    clear hb p1 p2 q1 q2
    obtain ⟨p1, p2, _, _⟩ := X1.two
    obtain ⟨q1, q2, _, _⟩ := X2.two
    have hl3 := X2.lt
    have X3 := (Bx.new w3 26 #[.bool false, .string ⟨#[]⟩]).alloc (.cells #[.bool false, .string ⟨#[]⟩] 26)
    have X4 := Bx.at1 w3 (.cells #[.bool false, .string ⟨#[]⟩] 26) 26 #[.bool false, .string ⟨#[]⟩]
    replace X1 := (X1.alloc (.cells #[.bool false, .string ⟨#[]⟩] 26)).alloc (.cells #[.bool false, .string ⟨#[]⟩] 26)
    replace X2 := (X2.alloc (.cells #[.bool false, .string ⟨#[]⟩] 26)).alloc (.cells #[.bool false, .string ⟨#[]⟩] 26)
    replace hB := nxtA (nxtA hB (.cells #[.bool false, .string ⟨#[]⟩] 26)) (.cells #[.bool false, .string ⟨#[]⟩] 26)
    clear p1 p2 q1 q2
    obtain ⟨p1, p2, _, _⟩ := X1.two
    obtain ⟨q1, q2, _, _⟩ := X2.two
    go_wp2_with fail
    generalize (w3.alloc (.cells #[.bool false, .string ⟨#[]⟩] 26)).alloc (.cells #[.bool false, .string ⟨#[]⟩] 26) = w4 at *
    generalize w3.heap.size = g at *
    refine (cE.out _).mono ?_
    rintro e w5 ⟨rfl, hb⟩
    replace X3 := X3.later hb
    replace X4 := X4.later hb
    replace hB := nxt hB hb
    clear hb p1 p2 q1 q2 X1 X2
    have hl5 := X4.lt
    have X5 := (Bx.new w5 26 #[.bool false, .string ⟨#[]⟩]).alloc (.cells #[.bool false, .string ⟨#[]⟩] 26)
    have X6 := Bx.at1 w5 (.cells #[.bool false, .string ⟨#[]⟩] 26) 26 #[.bool false, .string ⟨#[]⟩]
    replace X3 := (X3.alloc (.cells #[.bool false, .string ⟨#[]⟩] 26)).alloc (.cells #[.bool false, .string ⟨#[]⟩] 26)
    replace X4 := (X4.alloc (.cells #[.bool false, .string ⟨#[]⟩] 26)).alloc (.cells #[.bool false, .string ⟨#[]⟩] 26)
    replace hB := nxtA (nxtA hB (.cells #[.bool false, .string ⟨#[]⟩] 26)) (.cells #[.bool false, .string ⟨#[]⟩] 26)
    obtain ⟨r1, r2, _, _⟩ := X3.two
    obtain ⟨s1, s2, _, _⟩ := X4.two
    obtain ⟨u1, u2, _, _⟩ := X5.two
    obtain ⟨v1, v2, _, _⟩ := X6.two
    go_upto_region 5 with (fail)
    generalize (w5.alloc (.cells #[.bool false, .string ⟨#[]⟩] 26)).alloc (.cells #[.bool false, .string ⟨#[]⟩] 26) = w6 at *
    generalize w5.heap.size = g2 at *
    go_wp2_with fail
    refine (HA.out _ hB).mono ?_
    rintro e w7 ⟨rfl, hb⟩
    replace hB := nxt hB hb
    clear hb
    go_wp2
    go_ret
    exact ⟨rfl, hB⟩
  · simp only [if_neg h0] at cD cE
    clear h0
    obtain ⟨Q, hQ⟩ : ∃ Q, Q = ival b (sval s) / ival b' (sval t) := ⟨_, rfl⟩
    obtain ⟨R, hR⟩ : ∃ R, R = ival b (sval s) % ival b' (sval t) := ⟨_, rfl⟩
    rw [← hQ, ← hR] at cD cE
    clear hQ hR
    go_enter Tryd.func5, Tryd.ntmps5
    go_upto_region 1 with (fail)
    have X1 := (Bx.new w 26 #[.bool b, .string s]).alloc (.cells #[.bool b', .string t] 26)
    have X2 := Bx.at1 w (.cells #[.bool b, .string s] 26) 26 #[.bool b', .string t]
    have hB := b2 w (.cells #[.bool b, .string s] 26) (.cells #[.bool b', .string t] 26)
    generalize (w.alloc (.cells #[.bool b, .string s] 26)).alloc (.cells #[.bool b', .string t] 26) = w0 at *
    have hl0 := X1.lt
    have hl1 := X2.lt
    obtain ⟨p1, p2, _, _⟩ := X1.two
    obtain ⟨q1, q2, _, _⟩ := X2.two
    go_wp2_with fail
    refine (cl.out w0).mono ?_
    rintro e w1 ⟨rfl, rfl⟩
    replace X1 := X1.alloc (.cells #[.bool b, .string s, .bool b', .string t] 26)
    replace X2 := X2.alloc (.cells #[.bool b, .string s, .bool b', .string t] 26)
    replace hB := nxtA hB (.cells #[.bool b, .string s, .bool b', .string t] 26)
    clear p1 p2 q1 q2
    obtain ⟨p1, p2, _, _⟩ := X1.two
    obtain ⟨q1, q2, _, _⟩ := X2.two
    generalize w0.alloc (.cells #[.bool b, .string s, .bool b', .string t] 26) = w2 at *
    go_wp2_with fail
    refine (cD.out _).mono ?_
    rintro e w3 ⟨rfl, hb⟩
    replace X1 := X1.later hb
    replace X2 := X2.later hb
    replace hB := nxt hB hb
    clear hb p1 p2 q1 q2
    obtain ⟨p1, p2, _, _⟩ := X1.two
    obtain ⟨q1, q2, _, _⟩ := X2.two
    have hl3 := X2.lt
    have X3 := (Bx.new w3 26 #[.bool (neg (Q)), .string (mag (Q))]).alloc (.cells #[.bool (neg (R)), .string (mag (R))] 26)
    have X4 := Bx.at1 w3 (.cells #[.bool (neg (Q)), .string (mag (Q))] 26) 26 #[.bool (neg (R)), .string (mag (R))]
    replace X1 := (X1.alloc (.cells #[.bool (neg (Q)), .string (mag (Q))] 26)).alloc (.cells #[.bool (neg (R)), .string (mag (R))] 26)
    replace X2 := (X2.alloc (.cells #[.bool (neg (Q)), .string (mag (Q))] 26)).alloc (.cells #[.bool (neg (R)), .string (mag (R))] 26)
    replace hB := nxtA (nxtA hB (.cells #[.bool (neg (Q)), .string (mag (Q))] 26)) (.cells #[.bool (neg (R)), .string (mag (R))] 26)
    clear p1 p2 q1 q2
    obtain ⟨p1, p2, _, _⟩ := X1.two
    obtain ⟨q1, q2, _, _⟩ := X2.two
    go_wp2_with fail
    generalize (w3.alloc (.cells #[.bool (neg (Q)), .string (mag (Q))] 26)).alloc (.cells #[.bool (neg (R)), .string (mag (R))] 26) = w4 at *
    generalize w3.heap.size = g at *
    refine (cE.out _).mono ?_
    rintro e w5 ⟨rfl, hb⟩
    replace X3 := X3.later hb
    replace X4 := X4.later hb
    replace hB := nxt hB hb
    clear hb p1 p2 q1 q2 X1 X2
    have hl5 := X4.lt
    have X5 := (Bx.new w5 26 #[.bool (neg (Q)), .string (mag (Q))]).alloc (.cells #[.bool (neg (R)), .string (mag (R))] 26)
    have X6 := Bx.at1 w5 (.cells #[.bool (neg (Q)), .string (mag (Q))] 26) 26 #[.bool (neg (R)), .string (mag (R))]
    replace X3 := (X3.alloc (.cells #[.bool (neg (Q)), .string (mag (Q))] 26)).alloc (.cells #[.bool (neg (R)), .string (mag (R))] 26)
    replace X4 := (X4.alloc (.cells #[.bool (neg (Q)), .string (mag (Q))] 26)).alloc (.cells #[.bool (neg (R)), .string (mag (R))] 26)
    replace hB := nxtA (nxtA hB (.cells #[.bool (neg (Q)), .string (mag (Q))] 26)) (.cells #[.bool (neg (R)), .string (mag (R))] 26)
    obtain ⟨r1, r2, _, _⟩ := X3.two
    obtain ⟨s1, s2, _, _⟩ := X4.two
    obtain ⟨u1, u2, _, _⟩ := X5.two
    obtain ⟨v1, v2, _, _⟩ := X6.two
    go_upto_region 5 with (fail)
    generalize (w5.alloc (.cells #[.bool (neg (Q)), .string (mag (Q))] 26)).alloc (.cells #[.bool (neg (R)), .string (mag (R))] 26) = w6 at *
    generalize w5.heap.size = g2 at *
    go_wp2_with fail
    refine (HA.out _ hB).mono ?_
    rintro e w7 ⟨rfl, hb⟩
    replace hB := nxt hB hb
    clear hb
    go_wp2
    go_ret
    exact ⟨rfl, hB⟩

end Go.Proofs.YtmnmfidcldmhdaaDoor
