/- The walks of package whole: Mul, Pow, Sub, Cmp. -/
import Derived.Test.YtmnmfidcldmhdaaDoorWholeD
namespace Go.Proofs.YtmnmfidcldmhdaaDoor
open Go.RowKit

set_option maxRecDepth 100000 in
set_option maxHeartbeats 400000 in
theorem wMul_any (A : Option Addr) (n c : Nat) (bs : Nat → Bool) (ss : Nat → ByteArray) (S : Nat) (w : World) (hn : n ≤ 268435456) (hS : S ≤ 1073741824) (hs : ∀ j, (ss j).size ≤ S) (hSn : S * n ≤ 1073741823) (hr : RdI w A n bs ss) :
    Calls Tryd.prog 21 #[.slice A n c] w fun e w' => e = .returned (.agg #[.bool (neg (prodI (fun j => ival (bs j) (sval (ss j))) n)), .string (mag (prodI (fun j => ival (bs j) (sval (ss j))) n))]) ∧ Below w.heap.size w w' := by
  have HS := Lib.hid hs
  have hb1 : ∀ k, k ≤ n → bsz (prodI (fun j => ival (bs j) (sval (ss j))) k) ≤ 1073741824 := fun k hk => by
    have h1 := bsz_prodI (f := fun j => ival (bs j) (sval (ss j))) (S := S) (fun j => Nat.le_trans (bsz_ival _ _) (hs j)) k
    have h2 : S * k ≤ S * n := Nat.mul_le_mul_left _ hk
    omega
  have HB := Lib.hid hb1
  clear hs hb1 hSn
  have c1 := Lib.hid (fun W => wOf_any 1 W (by decide) (by decide))
  go_enter Tryd.func21, Tryd.ntmps21
  have X1 := Bx.new w 26 #[.bool false, .string ⟨#[]⟩]
  have hB := b1 w (.cells #[.bool false, .string ⟨#[]⟩] 26)
  go_wp2_with fail
  refine (c1.out _).mono ?_
  rintro e w1 ⟨rfl, hb⟩
  replace X1 := X1.later hb
  replace hB := nxt hB hb
  clear hb
  go_wp2_with fail
  refine (wof_any _ _ w1).mono ?_
  rintro e w2 ⟨rfl, hb⟩
  replace X1 := X1.later hb
  replace hB := nxt hB hb
  clear hb
  have hg : w.heap.size < w2.heap.size := X1.lt
  have X2 := Bx.new w2 56 #[.string (mag 1), .bool (neg 1)]
  replace X1 := X1.alloc (.cells #[.string (mag 1), .bool (neg 1)] 56)
  replace hB := nxtA hB (.cells #[.string (mag 1), .bool (neg 1)] 56)
  go_wp2_with fail
  generalize w2.alloc (.cells #[.string (mag 1), .bool (neg 1)] 56) = w0 at *
  generalize w2.heap.size = g at *
  go_loopw [10] (fun i wr => ∃ k : Nat, ∃ d : Bool, k ≤ n ∧ i = .int .i64 (k : Nat) ∧ Hid (ival d (prodI (fun j => ival (bs j) (sval (ss j))) k).natAbs = prodI (fun j => ival (bs j) (sval (ss j))) k) ∧ Bx wr w.heap.size 26 #[.bool false, .string ⟨#[]⟩] ∧ Bx wr g 56 #[.string (mag (prodI (fun j => ival (bs j) (sval (ss j))) k)), .bool d] ∧ Below w.heap.size w wr) (fun i _ => n - (intOf i).toNat)
  case atStart => exact ⟨0, neg 1, Nat.zero_le _, rfl, (by show ival (neg 1) (1 : Int).natAbs = 1; rfl), X1, X2, hB⟩
  case round =>
    obtain ⟨k, d, hk, rfl, hd, Y1, Y2, hB2⟩ := hrel
    obtain ⟨p1, p2, p3, p4⟩ := Y1.two
    obtain ⟨q1, q2, q3, q4⟩ := Y2.two
    by_cases hlt : k < n
    · obtain ⟨b, off, rfl, hc⟩ := hr (by omega)
      have hB3 : Below w.heap.size w wr := hB2
      have g1 := cell_later hB3 (hc k hlt).1
      have g2 := cell_later hB3 (hc k hlt).2
      clear hc hr
      have hl2 : g < wr.heap.size := Y2.lt
      have Z3 := Bx.new wr 26 #[.bool (bs k), .string (ss k)]
      have Z1 := Y1.alloc (.cells #[.bool (bs k), .string (ss k)] 26)
      have Z2 := Y2.alloc (.cells #[.bool (bs k), .string (ss k)] 26)
      have hB3 := nxtA hB2 (.cells #[.bool (bs k), .string (ss k)] 26)
      have hsz := HS.out k
      have hbz := HB.out k hk
      have HD := Lib.hid (show prodI (fun j => ival (bs j) (sval (ss j))) (k + 1) = ival d (sval (mag (prodI (fun j => ival (bs j) (sval (ss j))) k))) * ival (bs k) (sval (ss k)) by
        rw [sval_mag, hd.out]; rfl)
      have hms : (mag (prodI (fun j => ival (bs j) (sval (ss j))) k)).size ≤ 1073741824 := by rw [mag_size]; exact hbz
      have hsz2 : (ss k).size ≤ 1073741824 := by omega
      have cp := Lib.hid (fun W => wTimes_any (mag (prodI (fun j => ival (bs j) (sval (ss j))) k)) (ss k) d (bs k) W hms hsz2)
      rw [← HD.out] at cp
      clear hsz hbz hms hsz2
      obtain ⟨S1, hS1⟩ : ∃ S1, S1 = prodI (fun j => ival (bs j) (sval (ss j))) (k + 1) := ⟨_, rfl⟩
      rw [← hS1] at cp
      have H1 := Lib.hid hS1
      clear hS1
      go_wp2_with fail
      generalize wr.alloc (.cells #[.bool (bs k), .string (ss k)] 26) = w5 at *
      obtain ⟨z1, z2, _, _⟩ := Z3.two
      clear p1 p2 p3 p4 q1 q2 q3 q4
      obtain ⟨q1, q2, q3, q4⟩ := Z2.two
      have hl5 : wr.heap.size < w5.heap.size := Z3.lt
      go_region_with
        (first
          | (go_at_call 45; refine (wof_any (ss k) (bs k) w5.drew).mono ?_; rintro e wn ⟨rfl, hb'⟩; have hb := undrew hb'; clear hb'; obtain ⟨s1, s2, s3, s4⟩ := (Z2.later hb).two)
          | (go_at_call 48; refine (cp.out wn).mono ?_; rintro e wm ⟨d', rfl, hd', hb2⟩; have hd2 := Lib.hid hd'; clear hd'; obtain ⟨t1, t2, t3, t4⟩ := ((Z2.later hb).later hb2).two))
      all_goals
        go_wp2
        exact ⟨⟨k + 1, d', hlt, by go_num, by rw [← H1.out]; exact hd2.out, (((Z1.later hb).later hb2).far (p := ⟨g, 0, none⟩) (Nat.ne_of_lt hg) _).far (p := ⟨g, 1, none⟩) (Nat.ne_of_lt hg) _, by rw [← H1.out]; exact ((Z2.later hb).later hb2).set2 _ _, st2 (nxt (nxt hB3 hb) hb2) (Nat.le_of_lt hg) _ _⟩, by simp [intOf]; omega⟩
    · obtain rfl : k = n := by omega
      have cm := Lib.hid (fun W => wMade_any (mag (prodI (fun j => ival (bs j) (sval (ss j))) k)) d W)
      rw [sval_mag, hd.out] at cm
      go_wp2_with fail
      refine (cm.out _).mono ?_
      rintro e w6 ⟨rfl, hb6⟩
      obtain ⟨s1, s2, s3, s4⟩ := (Y1.later hb6).two
      go_wp2
      exact bodyPost_ret (v := .agg #[.bool (neg (prodI (fun j => ival (bs j) (sval (ss j))) k)), .string (mag (prodI (fun j => ival (bs j) (sval (ss j))) k))]) (by simp [results, Tryd.results21, go_sem, ((Y1.later hb6).set2 _ _).cel]) rfl ⟨rfl, st2 (nxt hB2 hb6) (Nat.le_refl _) _ _⟩

set_option maxRecDepth 100000 in
set_option maxHeartbeats 400000 in
theorem wPow_any (s : ByteArray) (b : Bool) (n : Int) (w : World) (hs : s.size * n.toNat ≤ 1073741823) (hs2 : s.size ≤ 1073741824) (hn : n ≤ 9223372036854775807) :
    Calls Tryd.prog 23 #[.agg #[.bool b, .string s], .int .i64 n] w fun e w' => e = .returned (.agg #[.bool (neg ((ival b (sval s)) ^ n.toNat)), .string (mag ((ival b (sval s)) ^ n.toNat))]) ∧ Below w.heap.size w w' := by
  obtain ⟨N, hN⟩ : ∃ N, N = n.toNat := ⟨_, rfl⟩
  have hmax : max n 0 = (N : Int) := by omega
  have hNb : N ≤ 9223372036854775807 := by omega
  rw [← hN] at hs ⊢
  have HZ := Lib.hid (show ∀ k, k ≤ N → bsz (ival b (sval s) ^ k) ≤ 1073741824 from fun k hk => by
    have h1 := bsz_pow_le (bsz_ival b s) k
    have h2 : s.size * k ≤ s.size * N := Nat.mul_le_mul_left _ hk
    omega)
  clear hN hs
  have c1 := Lib.hid (fun W => wOf_any 1 W (by decide) (by decide))
  go_enter Tryd.func23, Tryd.ntmps23
  have X1 := (Bx.new w 26 #[.bool b, .string s]).alloc (.cells #[.bool false, .string ⟨#[]⟩] 26)
  have X2 := Bx.at1 w (.cells #[.bool b, .string s] 26) 26 #[.bool false, .string ⟨#[]⟩]
  have hB := b2 w (.cells #[.bool b, .string s] 26) (.cells #[.bool false, .string ⟨#[]⟩] 26)
  go_wp2_with fail
  refine (c1.out _).mono ?_
  rintro e w1 ⟨rfl, hb⟩
  replace X1 := X1.later hb
  replace X2 := X2.later hb
  replace hB := nxt hB hb
  clear hb
  go_wp2_with fail
  refine (wof_any _ _ w1).mono ?_
  rintro e w2 ⟨rfl, hb⟩
  replace X1 := X1.later hb
  replace X2 := X2.later hb
  replace hB := nxt hB hb
  clear hb
  have hg : w.heap.size + 1 < w2.heap.size := X2.lt
  have X3 := Bx.new w2 56 #[.string (mag 1), .bool (neg 1)]
  replace X1 := X1.alloc (.cells #[.string (mag 1), .bool (neg 1)] 56)
  replace X2 := X2.alloc (.cells #[.string (mag 1), .bool (neg 1)] 56)
  replace hB := nxtA hB (.cells #[.string (mag 1), .bool (neg 1)] 56)
  go_wp2_with fail
  generalize w2.alloc (.cells #[.string (mag 1), .bool (neg 1)] 56) = w0 at *
  generalize w2.heap.size = g at *
  have hg1 : w.heap.size < g := by omega
  go_loopw [10] (fun i wr => ∃ k : Nat, ∃ d : Bool, k ≤ N ∧ i = .int .i64 (k : Nat) ∧ Hid (ival d (ival b (sval s) ^ k).natAbs = ival b (sval s) ^ k) ∧ Bx wr w.heap.size 26 #[.bool b, .string s] ∧ Bx wr (w.heap.size + 1) 26 #[.bool false, .string ⟨#[]⟩] ∧ Bx wr g 56 #[.string (mag (ival b (sval s) ^ k)), .bool d] ∧ Below w.heap.size w wr) (fun i _ => N - (intOf i).toNat)
  case atStart => exact ⟨0, neg 1, Nat.zero_le _, rfl, (by rw [Int.pow_zero]; exact (show ival (neg 1) (1 : Int).natAbs = 1 from rfl)), X1, X2, (by rw [Int.pow_zero]; exact X3), hB⟩
  case round =>
    obtain ⟨k, d, hk, rfl, hd, Y1, Y2, Y3, hB2⟩ := hrel
    by_cases hlt : k < N
    · obtain ⟨p1, p2, _, _⟩ := Y1.two
      obtain ⟨q1, q2, q3, q4⟩ := Y3.two
      have hl2 : g < wr.heap.size := Y3.lt
      have hbz := HZ.out k hk
      have HD := Lib.hid (show ival b (sval s) ^ (k + 1) = ival d (sval (mag (ival b (sval s) ^ k))) * ival b (sval s) by
        rw [sval_mag, hd.out, Int.pow_succ])
      have hms : (mag (ival b (sval s) ^ k)).size ≤ 1073741824 := by rw [mag_size]; exact hbz
      have cp := Lib.hid (fun W => wTimes_any (mag (ival b (sval s) ^ k)) s d b W hms hs2)
      rw [← HD.out] at cp
      clear hbz hms
      obtain ⟨S1, hS1⟩ : ∃ S1, S1 = ival b (sval s) ^ (k + 1) := ⟨_, rfl⟩
      rw [← hS1] at cp
      have H1 := Lib.hid hS1
      clear hS1
      go_wp2_with fail
      go_region_with
        (first
          | (go_at_call 45; refine (wof_any s b wr.drew).mono ?_; rintro e wn ⟨rfl, hb'⟩; have hb := undrew hb'; clear hb'; obtain ⟨s1, s2, s3, s4⟩ := (Y3.later hb).two)
          | (go_at_call 48; refine (cp.out wn).mono ?_; rintro e wm ⟨d', rfl, hd', hb2⟩; have hd2 := Lib.hid hd'; clear hd'; obtain ⟨t1, t2, t3, t4⟩ := ((Y3.later hb).later hb2).two))
      all_goals
        go_wp2
        exact ⟨⟨k + 1, d', hlt, by go_num, by rw [← H1.out]; exact hd2.out, (((Y1.later hb).later hb2).far (p := ⟨g, 0, none⟩) (Nat.ne_of_lt hg1) _).far (p := ⟨g, 1, none⟩) (Nat.ne_of_lt hg1) _, (((Y2.later hb).later hb2).far (p := ⟨g, 0, none⟩) (Nat.ne_of_lt hg) _).far (p := ⟨g, 1, none⟩) (Nat.ne_of_lt hg) _, by rw [← H1.out]; exact ((Y3.later hb).later hb2).set2 _ _, st2 (nxt (nxt hB2 hb) hb2) (Nat.le_of_lt hg1) _ _⟩, by simp [intOf]; omega⟩
    · obtain rfl : k = N := by omega
      obtain ⟨q1, q2, q3, q4⟩ := Y3.two
      have cm := Lib.hid (fun W => wMade_any (mag (ival b (sval s) ^ k)) d W)
      rw [sval_mag, hd.out] at cm
      go_wp2_with fail
      refine (cm.out _).mono ?_
      rintro e w6 ⟨rfl, hb6⟩
      obtain ⟨s1, s2, s3, s4⟩ := (Y2.later hb6).two
      go_wp2
      exact bodyPost_ret (v := .agg #[.bool (neg ((ival b (sval s)) ^ k)), .string (mag ((ival b (sval s)) ^ k))]) (by simp [results, Tryd.results23, go_sem, ((Y2.later hb6).set2 _ _).cel]) rfl ⟨rfl, st2 (nxt hB2 hb6) (Nat.le_add_right _ 1) _ _⟩

theorem rdI2 (w : World) (s t : ByteArray) (b b' : Bool) : RdI (w.alloc (.cells #[.bool b, .string s, .bool b', .string t] 26)) (some ⟨w.heap.size, 0, none⟩) 2 (fun j => if j = 0 then b else b') (fun j => if j = 0 then s else t) := fun _ =>
  ⟨w.heap.size, 0, rfl, fun j hj => by
    have h := Bx.new w 26 #[.bool b, .string s, .bool b', .string t]
    have : j = 0 ∨ j = 1 := by omega
    rcases this with rfl | rfl
    · exact ⟨h.cel 0, h.cel 1⟩
    · exact ⟨h.cel 2, h.cel 3⟩⟩
theorem wAdd2_any (s t : ByteArray) (b b' : Bool) (w : World) (hs : s.size ≤ 536870912) (ht : t.size ≤ 536870912) :
    Calls Tryd.prog 15 #[.slice (some ⟨w.heap.size, 0, none⟩) 2 2] (w.alloc (.cells #[.bool b, .string s, .bool b', .string t] 26)) fun e w' => e = .returned (.agg #[.bool (neg (ival b (sval s) + ival b' (sval t))), .string (mag (ival b (sval s) + ival b' (sval t)))]) ∧ Below w.heap.size w w' := by
  have h := wAdd_any _ 2 2 _ _ (w.alloc (.cells #[.bool b, .string s, .bool b', .string t] 26)) (by decide) (fun j => by split <;> assumption) (rdI2 w s t b b')
  have e : sumI (fun j => ival (if j = 0 then b else b') (sval (if j = 0 then s else t))) 2 = ival b (sval s) + ival b' (sval t) := by
    show (0 + ival b (sval s)) + ival b' (sval t) = _
    rw [Int.zero_add]
  rw [e] at h
  exact h.mono fun e w' ⟨he, hb⟩ => ⟨he, nxt (b1 _ _) hb⟩

set_option maxRecDepth 100000 in
set_option maxHeartbeats 400000 in
theorem wSub_any (s t : ByteArray) (b b' : Bool) (w : World) (hs : s.size ≤ 536870912) (ht : t.size ≤ 536870912) :
    Calls Tryd.prog 17 #[.agg #[.bool b, .string s], .agg #[.bool b', .string t]] w fun e w' => e = .returned (.agg #[.bool (neg (ival b (sval s) - ival b' (sval t))), .string (mag (ival b (sval s) - ival b' (sval t)))]) ∧ Below w.heap.size w w' := by
  have h2 : (mag (-ival b' (sval t))).size ≤ 536870912 := by
    rw [mag_size, bsz_neg]; exact Nat.le_trans (bsz_ival _ _) ht
  have cn := Lib.hid (fun W => wNeg_any t b' W)
  have ca := Lib.hid (fun W => wAdd2_any s (mag (-ival b' (sval t))) b (neg (-ival b' (sval t))) W hs h2)
  rw [ival_mk, ← Int.sub_eq_add_neg] at ca
  clear h2
  go_enter Tryd.func17, Tryd.ntmps17
  go_wp2_with fail
  have X1 := ((Bx.new w 26 #[.bool b, .string s]).alloc (.cells #[.bool b', .string t] 26)).alloc (.cells #[.bool false, .string ⟨#[]⟩] 26)
  have X2 := (Bx.at1 w (.cells #[.bool b, .string s] 26) 26 #[.bool b', .string t]).alloc (.cells #[.bool false, .string ⟨#[]⟩] 26)
  have X3 := Bx.at2 w (.cells #[.bool b, .string s] 26) (.cells #[.bool b', .string t] 26) 26 #[.bool false, .string ⟨#[]⟩]
  have hB := b3 w (.cells #[.bool b, .string s] 26) (.cells #[.bool b', .string t] 26) (.cells #[.bool false, .string ⟨#[]⟩] 26)
  generalize ((w.alloc (.cells #[.bool b, .string s] 26)).alloc (.cells #[.bool b', .string t] 26)).alloc (.cells #[.bool false, .string ⟨#[]⟩] 26) = w0 at *
  have hl0 := X1.lt
  have hl1 := X2.lt
  have hl2 := X3.lt
  obtain ⟨p1, p2, p3, p4⟩ := (X1).two
  obtain ⟨q1, q2, q3, q4⟩ := (X2).two
  obtain ⟨r1, r2, r3, r4⟩ := (X3).two
  go_region_held3 (fun w' => w'.cell? ⟨w.heap.size, 0, none⟩ = some (.bool b) ∧ w'.cell? ⟨w.heap.size, 1, none⟩ = some (.string s) ∧ w'.cell? ⟨w.heap.size + 1, 0, none⟩ = some (.bool b') ∧ w'.cell? ⟨w.heap.size + 1, 1, none⟩ = some (.string t)) (first | exact ⟨p1, p2, q1, q2⟩ | exact ⟨cell_later hb p1, cell_later hb p2, cell_later hb q1, cell_later hb q2⟩ | exact ⟨cell_later (b1 wn _) (cell_later hb p1), cell_later (b1 wn _) (cell_later hb p2), cell_later (b1 wn _) (cell_later hb q1), cell_later (b1 wn _) (cell_later hb q2)⟩ | exact ⟨cell_later hb2 (cell_later hb p1), cell_later hb2 (cell_later hb p2), cell_later hb2 (cell_later hb q1), cell_later hb2 (cell_later hb q2)⟩ | exact ⟨cell_far2 (cell_later hb2 (cell_later hb p1)) (by omega) _ _, cell_far2 (cell_later hb2 (cell_later hb p2)) (by omega) _ _, cell_far2 (cell_later hb2 (cell_later hb q1)) (by omega) _ _, cell_far2 (cell_later hb2 (cell_later hb q2)) (by omega) _ _⟩)
    (first
      | (go_at_call 29; refine (cn.out w0.drew).mono ?_; rintro e wn ⟨rfl, hb'⟩; have hb := undrew hb'; clear hb')
      | (go_at_call 15; refine (ca.out wn).mono ?_; rintro e wm ⟨rfl, hb2⟩; obtain ⟨t1, t2, t3, t4⟩ := ((X3.later hb).later hb2).two))
  go_wp2
  exact bodyPost_ret (v := .agg #[.bool (neg (ival b (sval s) - ival b' (sval t))), .string (mag (ival b (sval s) - ival b' (sval t)))]) (by simp [results, Tryd.results17, go_sem, (((X3.later hb).later hb2).set2 _ _).cel]) rfl ⟨rfl, st2 (nxt (nxt hB hb) hb2) (Nat.le_add_right _ 2) _ _⟩

set_option maxRecDepth 100000 in
set_option maxHeartbeats 400000 in
theorem wCmp_any (s t : ByteArray) (b b' : Bool) (w : World) (hs : s.size ≤ 536870912) (ht : t.size ≤ 536870912) :
    Calls Tryd.prog 19 #[.agg #[.bool b, .string s], .agg #[.bool b', .string t]] w fun e w' => e = .returned (.int .i64 (sgn (ival b (sval s) - ival b' (sval t)))) ∧ Below w.heap.size w w' := by
  have c1 := Lib.hid (fun W => wSub_any s t b b' W hs ht)
  have c2 := Lib.hid (fun W => wSign_any (mag (ival b (sval s) - ival b' (sval t))) (neg (ival b (sval s) - ival b' (sval t))) W)
  rw [ival_mk] at c2
  go_enter Tryd.func19, Tryd.ntmps19
  go_wp2_with fail
  refine (c1.out _).mono ?_
  rintro e w1 ⟨rfl, hb⟩
  have hB := nxt (b2 w _ _) hb
  clear hb
  go_wp2_with fail
  refine (c2.out _).mono ?_
  rintro e w2 ⟨rfl, hb⟩
  go_wp2
  go_ret
  exact ⟨rfl, nxt hB hb⟩

end Go.Proofs.YtmnmfidcldmhdaaDoor
