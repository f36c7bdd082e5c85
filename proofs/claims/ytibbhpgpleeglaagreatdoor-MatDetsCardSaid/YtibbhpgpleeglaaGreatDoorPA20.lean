/- The walks and plain laws beneath the statements. -/
import Derived.Test.YtibbhpgpleeglaaGreatDoorPA19
import Derived.Test.YtibbhpgpleeglaaGreatDoorPA15
namespace Go.Proofs.YtibbhpgpleeglaaGreatDoor
open Go.RowKit

theorem rOf_i (v : Nat) (x : Int) (w : World) (hv : v < LB) (hx : x = (v : Int)) :
    Calls Tryz.prog 69 #[.int .u64 x] w fun e w' => e = .returned (.string (nstr v)) ∧ Below w.heap.size w w' := by subst hx; exact rOf_any v w hv
theorem rText_nd (s : ByteArray) (A : Option Addr) (c : Nat) (w : World) (hs : s.size ≤ 268435456) (hnc : nd 1 (sval s) ≤ c) (hr : Rd w A (nd 1 (sval s)) (bitv (sval s))) :
    Calls Tryz.prog 88 #[.slice A (nd 1 (sval s)) c] w fun e w' => e = .returned (.string (nstr (sval s))) ∧ Below w.heap.size w w' :=
  rText_any A _ c _ w (by have := nd1_size s; omega) hnc (lt2_nd _) hr

set_option maxRecDepth 100000 in
set_option maxHeartbeats 400000 in
theorem rForm_any (s : ByteArray) (b : Bool) (w : World) (hs : s.size ≤ 268435456) :
    Calls Tryz.prog 67 #[.agg #[.bool b, .string s]] w fun e w' => e = .returned (.agg #[.bool (neg (ival b (sval s))), .string (mag (ival b (sval s)))]) ∧ Below w.heap.size w w' := by
  have hn := ival_neg b (sval s)
  have hm := mag_ival b (sval s)
  have cB := Lib.hid (fun W => rBits_any s W hs)
  obtain ⟨t, ht⟩ : ∃ t, t = nstr (sval s) := ⟨_, rfl⟩
  have HT := Lib.hid ht.symm
  have hemp := nstr_empty (v := sval s)
  rw [← ht] at hm hemp
  clear ht
  by_cases h0 : sval s = 0
  · have he : t.toList = [] := hemp.2 h0
    replace hn : neg (ival b (sval s)) = false := by rw [hn, h0]; cases b <;> rfl
    cases b
    · have HN := Lib.hid hn
      have HM := Lib.hid hm
      clear hn hm hemp h0
      go_enter Tryz.func67, Tryz.ntmps67
      go_wp2_with fail
      have X1 := (Bx.new w 27 #[.bool false, .string s]).alloc (.cells #[.bool false, .string ⟨#[]⟩] 27)
      have X2 := Bx.at1 w (.cells #[.bool false, .string s] 27) 27 #[.bool false, .string ⟨#[]⟩]
      have hB := b2 w (.cells #[.bool false, .string s] 27) (.cells #[.bool false, .string ⟨#[]⟩] 27)
      generalize (w.alloc (.cells #[.bool false, .string s] 27)).alloc (.cells #[.bool false, .string ⟨#[]⟩] 27) = w0 at *
      have hl0 := X1.lt
      have hl1 := X2.lt
      refine (cB.out _).mono ?_
      rintro e w1 ⟨A, c, rfl, hnc, hr, hb⟩
      replace X1 := X1.later hb
      replace X2 := X2.later hb
      replace hB := nxt hB hb
      clear hb
      have cT := Lib.hid (rText_nd s A c w1 hs hnc hr)
      go_wp2_with fail
      refine cT.out.mono ?_
      rintro e w2 ⟨rfl, hb⟩
      rw [HT.out]
      replace X1 := X1.later hb
      replace X2 := X2.later hb
      replace hB := nxt hB hb
      clear hb
      obtain ⟨p1, p2, _, _⟩ := X1.two
      obtain ⟨q1, q2, q3, q4⟩ := X2.two
      go_wp2
      exact bodyPost_ret (v := .agg #[.bool false, .string t]) (by simp [results, Tryz.results67, go_sem, (X2.set2 _ _).cel]) rfl ⟨by rw [HN.out, HM.out], st2 hB (Nat.le_add_right _ 1) _ _⟩
    · have HN := Lib.hid hn
      have HM := Lib.hid hm
      clear hn hm hemp h0
      go_enter Tryz.func67, Tryz.ntmps67
      go_wp2_with fail
      have X1 := (Bx.new w 27 #[.bool true, .string s]).alloc (.cells #[.bool false, .string ⟨#[]⟩] 27)
      have X2 := Bx.at1 w (.cells #[.bool true, .string s] 27) 27 #[.bool false, .string ⟨#[]⟩]
      have hB := b2 w (.cells #[.bool true, .string s] 27) (.cells #[.bool false, .string ⟨#[]⟩] 27)
      generalize (w.alloc (.cells #[.bool true, .string s] 27)).alloc (.cells #[.bool false, .string ⟨#[]⟩] 27) = w0 at *
      have hl0 := X1.lt
      have hl1 := X2.lt
      refine (cB.out _).mono ?_
      rintro e w1 ⟨A, c, rfl, hnc, hr, hb⟩
      replace X1 := X1.later hb
      replace X2 := X2.later hb
      replace hB := nxt hB hb
      clear hb
      have cT := Lib.hid (rText_nd s A c w1 hs hnc hr)
      go_wp2_with fail
      refine cT.out.mono ?_
      rintro e w2 ⟨rfl, hb⟩
      rw [HT.out]
      replace X1 := X1.later hb
      replace X2 := X2.later hb
      replace hB := nxt hB hb
      clear hb
      obtain ⟨p1, p2, _, _⟩ := X1.two
      obtain ⟨q1, q2, q3, q4⟩ := X2.two
      go_wp2
      exact bodyPost_ret (v := .agg #[.bool false, .string t]) (by simp [results, Tryz.results67, go_sem, (X2.set2 _ _).cel]) rfl ⟨by rw [HN.out, HM.out], st2 hB (Nat.le_add_right _ 1) _ _⟩
  · have he : t.toList.isEmpty = false := by
      rw [List.isEmpty_eq_false_iff]; exact fun h => h0 (hemp.1 h)
    have hv : (sval s == 0) = false := by simpa using h0
    rw [hv] at hn
    cases b
    · have HN := Lib.hid hn
      have HM := Lib.hid hm
      clear hn hm hemp hv h0
      go_enter Tryz.func67, Tryz.ntmps67
      go_wp2_with fail
      have X1 := (Bx.new w 27 #[.bool false, .string s]).alloc (.cells #[.bool false, .string ⟨#[]⟩] 27)
      have X2 := Bx.at1 w (.cells #[.bool false, .string s] 27) 27 #[.bool false, .string ⟨#[]⟩]
      have hB := b2 w (.cells #[.bool false, .string s] 27) (.cells #[.bool false, .string ⟨#[]⟩] 27)
      generalize (w.alloc (.cells #[.bool false, .string s] 27)).alloc (.cells #[.bool false, .string ⟨#[]⟩] 27) = w0 at *
      have hl0 := X1.lt
      have hl1 := X2.lt
      refine (cB.out _).mono ?_
      rintro e w1 ⟨A, c, rfl, hnc, hr, hb⟩
      replace X1 := X1.later hb
      replace X2 := X2.later hb
      replace hB := nxt hB hb
      clear hb
      have cT := Lib.hid (rText_nd s A c w1 hs hnc hr)
      go_wp2_with fail
      refine cT.out.mono ?_
      rintro e w2 ⟨rfl, hb⟩
      rw [HT.out]
      replace X1 := X1.later hb
      replace X2 := X2.later hb
      replace hB := nxt hB hb
      clear hb
      obtain ⟨p1, p2, _, _⟩ := X1.two
      obtain ⟨q1, q2, q3, q4⟩ := X2.two
      go_wp2
      exact bodyPost_ret (v := .agg #[.bool false, .string t]) (by simp [results, Tryz.results67, go_sem, (X2.set2 _ _).cel]) rfl ⟨by rw [HN.out, HM.out]; rfl, st2 hB (Nat.le_add_right _ 1) _ _⟩
    · have HN := Lib.hid hn
      have HM := Lib.hid hm
      clear hn hm hemp hv h0
      go_enter Tryz.func67, Tryz.ntmps67
      go_wp2_with fail
      have X1 := (Bx.new w 27 #[.bool true, .string s]).alloc (.cells #[.bool false, .string ⟨#[]⟩] 27)
      have X2 := Bx.at1 w (.cells #[.bool true, .string s] 27) 27 #[.bool false, .string ⟨#[]⟩]
      have hB := b2 w (.cells #[.bool true, .string s] 27) (.cells #[.bool false, .string ⟨#[]⟩] 27)
      generalize (w.alloc (.cells #[.bool true, .string s] 27)).alloc (.cells #[.bool false, .string ⟨#[]⟩] 27) = w0 at *
      have hl0 := X1.lt
      have hl1 := X2.lt
      refine (cB.out _).mono ?_
      rintro e w1 ⟨A, c, rfl, hnc, hr, hb⟩
      replace X1 := X1.later hb
      replace X2 := X2.later hb
      replace hB := nxt hB hb
      clear hb
      have cT := Lib.hid (rText_nd s A c w1 hs hnc hr)
      go_wp2_with fail
      refine cT.out.mono ?_
      rintro e w2 ⟨rfl, hb⟩
      rw [HT.out]
      replace X1 := X1.later hb
      replace X2 := X2.later hb
      replace hB := nxt hB hb
      clear hb
      obtain ⟨p1, p2, _, _⟩ := X1.two
      obtain ⟨q1, q2, q3, q4⟩ := X2.two
      go_wp2
      exact bodyPost_ret (v := .agg #[.bool true, .string t]) (by simp [results, Tryz.results67, go_sem, (X2.set2 _ _).cel]) rfl ⟨by rw [HN.out, HM.out]; rfl, st2 hB (Nat.le_add_right _ 1) _ _⟩

set_option maxRecDepth 100000 in
set_option maxHeartbeats 400000 in
theorem rWOf_neg (v : Nat) (w : World) (h0 : 0 < v) (hv : v ≤ 9223372036854775808) :
    Calls Tryz.prog 44 #[.int .i64 (-(v : Int))] w fun e w' => e = .returned (.agg #[.bool (neg (-(v : Int))), .string (mag (-(v : Int)))]) ∧ Below w.heap.size w w' := by
  have hn : neg (-(v : Int)) = true := decide_eq_true (by omega)
  have hm : mag (-(v : Int)) = nstr v := by unfold mag; rw [Int.natAbs_neg, Int.natAbs_natCast]
  rw [hn, hm]
  have co := Lib.hid (fun W x hx => rOf_i v x W (by rw [LB_eq]; omega) hx)
  have hcv : IntKind.u64.wrap ((v : Int) - 1) = (v : Int) - 1 := by rw [IntKind.wrap_u64]; omega
  have hcw : IntKind.u64.wrap ((v : Int) - 1 + 1) = (v : Int) := by rw [IntKind.wrap_u64]; omega
  have hcx : IntKind.u64.wrap (v : Int) = (v : Int) := by rw [IntKind.wrap_u64]; omega
  have hcy : IntKind.u64.wrap (-(-(v : Int) + 1)) = (v : Int) - 1 := by rw [IntKind.wrap_u64]; omega
  clear hn hm
  go_enter Tryz.func44, Tryz.ntmps44
  have X := Bx.new w 27 #[.bool false, .string ⟨#[]⟩]
  go_wp2_with fail
  refine (co.out _ _ (by omega)).mono ?_
  rintro e w1 ⟨rfl, hb⟩
  have X1 := X.later hb
  have hB := nxt (b1 w _) hb
  clear hb X
  obtain ⟨r1, r2, r3, r4⟩ := X1.two
  go_wp2
  exact bodyPost_ret (v := .agg #[.bool true, .string (nstr v)]) (by simp [results, Tryz.results44, go_sem, (X1.set2 _ _).cel]) rfl ⟨rfl, st2 hB (Nat.le_refl _) _ _⟩
set_option maxRecDepth 100000 in
set_option maxHeartbeats 400000 in
theorem rWOf_pos (v : Nat) (w : World) (hv : v ≤ 9223372036854775807) :
    Calls Tryz.prog 44 #[.int .i64 (v : Int)] w fun e w' => e = .returned (.agg #[.bool (neg ((v : Int))), .string (mag ((v : Int)))]) ∧ Below w.heap.size w w' := by
  have hn : neg (v : Int) = false := decide_eq_false (by omega)
  have hm : mag (v : Int) = nstr v := by unfold mag; rw [Int.natAbs_natCast]
  rw [hn, hm]
  have co := Lib.hid (fun W x hx => rOf_i v x W (by rw [LB_eq]; omega) hx)
  have hcx : IntKind.u64.wrap (v : Int) = (v : Int) := by rw [IntKind.wrap_u64]; omega
  clear hn hm
  go_enter Tryz.func44, Tryz.ntmps44
  have X := Bx.new w 27 #[.bool false, .string ⟨#[]⟩]
  go_wp2_with fail
  refine (co.out _ _ rfl).mono ?_
  rintro e w1 ⟨rfl, hb⟩
  have X1 := X.later hb
  have hB := nxt (b1 w _) hb
  clear hb X
  obtain ⟨r1, r2, r3, r4⟩ := X1.two
  go_wp2
  exact bodyPost_ret (v := .agg #[.bool false, .string (nstr v)]) (by simp [results, Tryz.results44, go_sem, (X1.set2 _ _).cel]) rfl ⟨rfl, st2 hB (Nat.le_refl _) _ _⟩
theorem rWOf_any (n : Int) (w : World) (h1 : -9223372036854775808 ≤ n) (h2 : n ≤ 9223372036854775807) :
    Calls Tryz.prog 44 #[.int .i64 n] w fun e w' => e = .returned (.agg #[.bool (neg (n)), .string (mag (n))]) ∧ Below w.heap.size w w' := by
  by_cases h : n < 0
  · obtain ⟨v, rfl⟩ : ∃ v : Nat, n = -(v : Int) := ⟨n.natAbs, by omega⟩
    exact rWOf_neg v w (by omega) (by omega)
  · obtain ⟨v, rfl⟩ : ∃ v : Nat, n = (v : Int) := ⟨n.natAbs, by omega⟩
    exact rWOf_pos v w (by omega)

set_option maxRecDepth 100000 in
set_option maxHeartbeats 400000 in
theorem rWNeg_any (s : ByteArray) (b : Bool) (w : World) (hs : s.size ≤ 268435456) :
    Calls Tryz.prog 58 #[.agg #[.bool b, .string s]] w fun e w' => e = .returned (.agg #[.bool (neg (-ival b (sval s))), .string (mag (-ival b (sval s)))]) ∧ Below w.heap.size w w' := by
  rw [← ival_not]
  have cF := Lib.hid (fun W => rForm_any s (!b) W hs)
  go_enter Tryz.func58, Tryz.ntmps58
  go_wp2_with fail
  have X1 := (Bx.new w 27 #[.bool b, .string s]).alloc (.cells #[.bool false, .string ⟨#[]⟩] 27)
  have X2 := Bx.at1 w (.cells #[.bool b, .string s] 27) 27 #[.bool false, .string ⟨#[]⟩]
  have hB := b2 w (.cells #[.bool b, .string s] 27) (.cells #[.bool false, .string ⟨#[]⟩] 27)
  generalize (w.alloc (.cells #[.bool b, .string s] 27)).alloc (.cells #[.bool false, .string ⟨#[]⟩] 27) = w0 at *
  have hl0 := X1.lt
  have hl1 := X2.lt
  refine (cF.out _).mono ?_
  rintro e w1 ⟨rfl, hb⟩
  obtain ⟨r1, r2, r3, r4⟩ := (X2.later hb).two
  go_wp2
  exact bodyPost_ret (v := .agg #[.bool (neg (ival (!b) (sval s))), .string (mag (ival (!b) (sval s)))]) (by simp [results, Tryz.results58, go_sem, ((X2.later hb).set2 _ _).cel]) rfl ⟨rfl, st2 (nxt hB hb) (Nat.le_add_right _ 1) _ _⟩

set_option maxRecDepth 100000 in
set_option maxHeartbeats 400000 in
theorem rWSign_any (s : ByteArray) (b : Bool) (w : World) (hs : s.size ≤ 268435456) :
    Calls Tryz.prog 80 #[.agg #[.bool b, .string s]] w fun e w' => e = .returned (.int .i64 (sgn (ival b (sval s)))) ∧ Below w.heap.size w w' := by
  have cL := Lib.hid (fun W => rLen_any s W hs)
  by_cases h0 : sval s = 0
  · have HS := Lib.hid (show sgn (ival b (sval s)) = 0 by rw [h0, ival_zero]; rfl)
    have hl : nd 1 (sval s) = 0 := by rw [h0]; rfl
    rw [hl] at cL
    clear h0 hl
    go_enter Tryz.func80, Tryz.ntmps80
    go_wp2_with fail
    refine (cL.out _).mono ?_
    rintro e w1 ⟨rfl, hb⟩
    go_wp2
    go_ret
    exact ⟨by rw [HS.out]; rfl, nxt (b1 w _) hb⟩
  · have hl : 0 < nd 1 (sval s) := nd_pos h0
    have hl2 : (((nd 1 (sval s) : Nat) : Int) == 0) = false := by simp; omega
    cases b
    · have HS := Lib.hid (show sgn (ival false (sval s)) = 1 by unfold sgn ival; simp; omega)
      clear h0
      go_enter Tryz.func80, Tryz.ntmps80
      have X1 := Bx.new w 27 #[.bool false, .string s]
      go_wp2_with fail
      refine (cL.out _).mono ?_
      rintro e w1 ⟨rfl, hb⟩
      obtain ⟨p1, p2, _, _⟩ := (X1.later hb).two
      go_wp2
      go_ret
      exact ⟨by rw [HS.out]; rfl, nxt (b1 w _) hb⟩
    · have HS := Lib.hid (show sgn (ival true (sval s)) = -1 by unfold sgn ival; simp; omega)
      clear h0
      go_enter Tryz.func80, Tryz.ntmps80
      have X1 := Bx.new w 27 #[.bool true, .string s]
      go_wp2_with fail
      refine (cL.out _).mono ?_
      rintro e w1 ⟨rfl, hb⟩
      obtain ⟨p1, p2, _, _⟩ := (X1.later hb).two
      go_wp2
      go_ret
      exact ⟨by rw [HS.out]; rfl, nxt (b1 w _) hb⟩

theorem ival_pro2 (b b' : Bool) (u v : Nat) : ival b u * ival b' v = ival (!(b == b')) (u * v) := by
  cases b <;> cases b' <;> simp [ival, Int.neg_mul, Int.mul_neg]
set_option maxRecDepth 100000 in
set_option maxHeartbeats 400000 in
theorem rTimes_any (s t : ByteArray) (b b' : Bool) (w : World) (hs : s.size ≤ 16777216) (ht : t.size ≤ 16777216) :
    Calls Tryz.prog 57 #[.agg #[.bool b, .string s], .agg #[.bool b', .string t]] w fun e w' => e = .returned (.agg #[.bool (neg (ival b (sval s) * ival b' (sval t))), .string (mag (ival b (sval s) * ival b' (sval t)))]) ∧ Below w.heap.size w w' := by
  have hsz : (nstr (sval s * sval t)).size ≤ 268435456 := by
    have h := bsz_mul_le (bsz_ival false s) (bsz_ival false t)
    rw [← mag_size, show ival false (sval s) * ival false (sval t) = ival false (sval s * sval t) by simp [ival], mag_ival] at h
    omega
  have c1 := Lib.hid (fun W => rMul_any s t W hs ht)
  have c2 := Lib.hid (fun W => rForm_any (nstr (sval s * sval t)) (!(b == b')) W hsz)
  rw [sval_nstr, ← ival_pro2] at c2
  clear hsz
  go_enter Tryz.func57, Tryz.ntmps57
  go_wp2_with fail
  have X1 := ((Bx.new w 27 #[.bool b, .string s]).alloc (.cells #[.bool b', .string t] 27)).alloc (.cells #[.bool false, .string ⟨#[]⟩] 27)
  have X2 := (Bx.at1 w (.cells #[.bool b, .string s] 27) 27 #[.bool b', .string t]).alloc (.cells #[.bool false, .string ⟨#[]⟩] 27)
  have X3 := Bx.at2 w (.cells #[.bool b, .string s] 27) (.cells #[.bool b', .string t] 27) 27 #[.bool false, .string ⟨#[]⟩]
  have hB := b3 w (.cells #[.bool b, .string s] 27) (.cells #[.bool b', .string t] 27) (.cells #[.bool false, .string ⟨#[]⟩] 27)
  generalize ((w.alloc (.cells #[.bool b, .string s] 27)).alloc (.cells #[.bool b', .string t] 27)).alloc (.cells #[.bool false, .string ⟨#[]⟩] 27) = w0 at *
  have hl0 := X1.lt
  have hl1 := X2.lt
  have hl2 := X3.lt
  obtain ⟨p1, p2, p3, p4⟩ := (X1).two
  obtain ⟨q1, q2, q3, q4⟩ := (X2).two
  obtain ⟨r1, r2, r3, r4⟩ := (X3).two
  go_region_held3 (fun w' => w'.cell? ⟨w.heap.size, 0, none⟩ = some (.bool b) ∧ w'.cell? ⟨w.heap.size, 1, none⟩ = some (.string s) ∧ w'.cell? ⟨w.heap.size + 1, 0, none⟩ = some (.bool b') ∧ w'.cell? ⟨w.heap.size + 1, 1, none⟩ = some (.string t)) (first | exact ⟨p1, p2, q1, q2⟩ | exact ⟨cell_later hb p1, cell_later hb p2, cell_later hb q1, cell_later hb q2⟩ | exact ⟨cell_later (b1 _ _) p1, cell_later (b1 _ _) p2, cell_later (b1 _ _) q1, cell_later (b1 _ _) q2⟩ | exact ⟨cell_later hb2 (cell_later hb p1), cell_later hb2 (cell_later hb p2), cell_later hb2 (cell_later hb q1), cell_later hb2 (cell_later hb q2)⟩ | exact ⟨cell_far2 (cell_later hb2 (cell_later hb p1)) (by omega) _ _, cell_far2 (cell_later hb2 (cell_later hb p2)) (by omega) _ _, cell_far2 (cell_later hb2 (cell_later hb q1)) (by omega) _ _, cell_far2 (cell_later hb2 (cell_later hb q2)) (by omega) _ _⟩ | go_keep)
    (first
      | (go_at_call 79; refine (c1.out w0.drew).mono ?_; rintro e wn ⟨rfl, hb'⟩; have hb := undrew hb'; clear hb')
      | (go_at_call 67; refine (c2.out wn).mono ?_; rintro e wm ⟨rfl, hb2⟩; obtain ⟨t1, t2, t3, t4⟩ := ((X3.later hb).later hb2).two))
  go_wp2
  exact bodyPost_ret (v := .agg #[.bool (neg (ival b (sval s) * ival b' (sval t))), .string (mag (ival b (sval s) * ival b' (sval t)))]) (by simp [results, Tryz.results57, go_sem, (((X3.later hb).later hb2).set2 _ _).cel]) rfl ⟨rfl, st2 (nxt (nxt hB hb) hb2) (Nat.le_add_right _ 2) _ _⟩

theorem radd2_any (a b : ByteArray) (w : World) (t : TypeId) (ha : a.size ≤ 16777216) (hb : b.size ≤ 16777216) :
    Calls Tryz.prog 81 #[.slice (some ⟨w.heap.size, 0, none⟩) 2 2] (w.alloc (.cells #[.string a, .string b] t)) fun e w' => e = .returned (.string (nstr (sval a + sval b))) ∧ Below w.heap.size w w' := by
  have h := (Cel.new w t #[.string a, .string b]).rd (o := 0) (n := 2) (by simp)
  have hr : Rd (w.alloc (.cells #[.string a, .string b] t)) (some ⟨w.heap.size, 0, none⟩) 2 (fun j => .string (if j = 0 then a else b)) := h.congr fun j hj => by
    have : j = 0 ∨ j = 1 := by omega
    rcases this with rfl | rfl <;> rfl
  have hs : sumTo (fun j => sval (if j = 0 then a else b)) 2 = sval a + sval b := by simp [sumTo]
  refine (rAdd_any _ 2 2 (fun j => if j = 0 then a else b) _ (by decide) (fun j => by split <;> assumption) hr).mono fun e w' ⟨he, hb⟩ => ⟨by rw [he, hs], nxt (b1 _ _) hb⟩
theorem nstr_add_size {s t : ByteArray} {n : Nat} (hs : s.size ≤ n) (ht : t.size ≤ n) : (nstr (sval s + sval t)).size ≤ n + 1 := by
  have h := bsz_add_le (Nat.le_trans (bsz_ival false s) hs) (Nat.le_trans (bsz_ival false t) ht)
  rwa [← mag_size, show ival false (sval s) + ival false (sval t) = ival false (sval s + sval t) by simp [ival], mag_ival] at h
theorem nstr_le_size {v : Nat} {s : ByteArray} (h : v ≤ sval s) : (nstr v).size ≤ s.size := by
  rw [nstr_size]; exact nd_le_of_lt (k := 8) (by decide) (Nat.lt_of_le_of_lt h (sval_lt s))
set_option maxRecDepth 100000 in
set_option maxHeartbeats 400000 in
theorem rplus_same (s t : ByteArray) (b : Bool) (w : World) (hs : s.size ≤ 16777216) (ht : t.size ≤ 16777216) :
    Calls Tryz.prog 61 #[.agg #[.bool b, .string s], .agg #[.bool b, .string t]] w fun e w' => e = .returned (.agg #[.bool (neg (ival b (sval s + sval t))), .string (mag (ival b (sval s + sval t)))]) ∧ Below w.heap.size w w' := by
  have hsz : (nstr (sval s + sval t)).size ≤ 268435456 := by have := nstr_add_size hs ht; omega
  have c2 := Lib.hid (fun W => rForm_any (nstr (sval s + sval t)) b W hsz)
  rw [sval_nstr] at c2
  clear hsz
  go_enter Tryz.func61, Tryz.ntmps61
  go_wp2_with fail
  have X1 := ((Bx.new w 27 #[.bool b, .string s]).alloc (.cells #[.bool b, .string t] 27)).alloc (.cells #[.bool false, .string ⟨#[]⟩] 27)
  have X2 := (Bx.at1 w (.cells #[.bool b, .string s] 27) 27 #[.bool b, .string t]).alloc (.cells #[.bool false, .string ⟨#[]⟩] 27)
  have X3 := Bx.at2 w (.cells #[.bool b, .string s] 27) (.cells #[.bool b, .string t] 27) 27 #[.bool false, .string ⟨#[]⟩]
  have hB := b3 w (.cells #[.bool b, .string s] 27) (.cells #[.bool b, .string t] 27) (.cells #[.bool false, .string ⟨#[]⟩] 27)
  generalize ((w.alloc (.cells #[.bool b, .string s] 27)).alloc (.cells #[.bool b, .string t] 27)).alloc (.cells #[.bool false, .string ⟨#[]⟩] 27) = w0 at *
  have hl0 := X1.lt
  have hl1 := X2.lt
  have hl2 := X3.lt
  obtain ⟨p1, p2, p3, p4⟩ := (X1).two
  obtain ⟨q1, q2, q3, q4⟩ := (X2).two
  obtain ⟨r1, r2, r3, r4⟩ := (X3).two
  go_region_held3 (fun w' => w'.cell? ⟨w.heap.size, 0, none⟩ = some (.bool b) ∧ w'.cell? ⟨w.heap.size, 1, none⟩ = some (.string s) ∧ w'.cell? ⟨w.heap.size + 1, 0, none⟩ = some (.bool b) ∧ w'.cell? ⟨w.heap.size + 1, 1, none⟩ = some (.string t)) (first | exact ⟨p1, p2, q1, q2⟩ | exact ⟨cell_later hb p1, cell_later hb p2, cell_later hb q1, cell_later hb q2⟩ | exact ⟨cell_later (b1 _ _) p1, cell_later (b1 _ _) p2, cell_later (b1 _ _) q1, cell_later (b1 _ _) q2⟩ | exact ⟨cell_later hb2 (cell_later hb p1), cell_later hb2 (cell_later hb p2), cell_later hb2 (cell_later hb q1), cell_later hb2 (cell_later hb q2)⟩ | exact ⟨cell_far2 (cell_later hb2 (cell_later hb p1)) (by omega) _ _, cell_far2 (cell_later hb2 (cell_later hb p2)) (by omega) _ _, cell_far2 (cell_later hb2 (cell_later hb q1)) (by omega) _ _, cell_far2 (cell_later hb2 (cell_later hb q2)) (by omega) _ _⟩ | go_keep)
    (first
      | (go_at_call 81; refine (radd2_any s t w0.drew _ hs ht).mono ?_; rintro e wn ⟨rfl, hb'⟩; have hb := undrew hb'; clear hb')
      | (go_at_call 67; refine (c2.out wn).mono ?_; rintro e wm ⟨rfl, hb2⟩; obtain ⟨t1, t2, t3, t4⟩ := ((X3.later hb).later hb2).two))
  go_wp2
  exact bodyPost_ret (v := .agg #[.bool (neg (ival b (sval s + sval t))), .string (mag (ival b (sval s + sval t)))]) (by simp [results, Tryz.results61, go_sem, (((X3.later hb).later hb2).set2 _ _).cel]) rfl ⟨rfl, st2 (nxt (nxt hB hb) hb2) (Nat.le_add_right _ 2) _ _⟩

set_option maxRecDepth 100000 in
set_option maxHeartbeats 400000 in
theorem rplus_ge (s t : ByteArray) (b b' : Bool) (w : World) (hs : s.size ≤ 16777216) (ht : t.size ≤ 16777216) (hbb : (b == b') = false) (hst : sval t ≤ sval s) :
    Calls Tryz.prog 61 #[.agg #[.bool b, .string s], .agg #[.bool b', .string t]] w fun e w' => e = .returned (.agg #[.bool (neg (ival b (sval s - sval t))), .string (mag (ival b (sval s - sval t)))]) ∧ Below w.heap.size w w' := by
  have hsz : (nstr (sval s - sval t)).size ≤ 268435456 := by have := nstr_le_size (v := sval s - sval t) (s := s) (by omega); omega
  have c1 := Lib.hid (fun W => rSub_any s t W (by omega) (by omega))
  have c3 := Lib.hid (fun W => rSub_any t s W (by omega) (by omega))
  have c2 := Lib.hid (fun W => rForm_any (nstr (sval s - sval t)) b W hsz)
  rw [sval_nstr] at c2
  rw [if_neg (by omega)] at c1
  clear hsz hst
  go_enter Tryz.func61, Tryz.ntmps61
  go_wp2_with fail
  have X1 := ((Bx.new w 27 #[.bool b, .string s]).alloc (.cells #[.bool b', .string t] 27)).alloc (.cells #[.bool false, .string ⟨#[]⟩] 27)
  have X2 := (Bx.at1 w (.cells #[.bool b, .string s] 27) 27 #[.bool b', .string t]).alloc (.cells #[.bool false, .string ⟨#[]⟩] 27)
  have X3 := Bx.at2 w (.cells #[.bool b, .string s] 27) (.cells #[.bool b', .string t] 27) 27 #[.bool false, .string ⟨#[]⟩]
  have hB := b3 w (.cells #[.bool b, .string s] 27) (.cells #[.bool b', .string t] 27) (.cells #[.bool false, .string ⟨#[]⟩] 27)
  generalize ((w.alloc (.cells #[.bool b, .string s] 27)).alloc (.cells #[.bool b', .string t] 27)).alloc (.cells #[.bool false, .string ⟨#[]⟩] 27) = w0 at *
  have hl0 := X1.lt
  have hl1 := X2.lt
  have hl2 := X3.lt
  obtain ⟨p1, p2, p3, p4⟩ := (X1).two
  obtain ⟨q1, q2, q3, q4⟩ := (X2).two
  obtain ⟨r1, r2, r3, r4⟩ := (X3).two
  refine (c1.out _).mono ?_
  rintro e w1 ⟨rfl, hb⟩
  replace X1 := X1.later hb
  replace X2 := X2.later hb
  replace X3 := X3.later hb
  replace hB := nxt hB hb
  clear hb p1 p2 p3 p4 q1 q2 q3 q4 r1 r2 r3 r4
  obtain ⟨p1, p2, p3, p4⟩ := (X1).two
  obtain ⟨q1, q2, q3, q4⟩ := (X2).two
  obtain ⟨r1, r2, r3, r4⟩ := (X3).two
  go_wp2_with fail
  refine (c2.out _).mono ?_
  rintro e w4 ⟨rfl, hb⟩
  replace X3 := X3.later hb
  replace hB := nxt hB hb
  clear hb p1 p2 p3 p4 q1 q2 q3 q4 r1 r2 r3 r4
  obtain ⟨r1, r2, r3, r4⟩ := X3.two
  go_wp2
  exact bodyPost_ret (v := .agg #[.bool (neg (ival b (sval s - sval t))), .string (mag (ival b (sval s - sval t)))]) (by simp [results, Tryz.results61, go_sem, (X3.set2 _ _).cel]) rfl ⟨rfl, st2 hB (Nat.le_add_right _ 2) _ _⟩

set_option maxRecDepth 100000 in
set_option maxHeartbeats 400000 in
theorem rplus_lt (s t : ByteArray) (b b' : Bool) (w : World) (hs : s.size ≤ 16777216) (ht : t.size ≤ 16777216) (hbb : (b == b') = false) (hst : sval s < sval t) :
    Calls Tryz.prog 61 #[.agg #[.bool b, .string s], .agg #[.bool b', .string t]] w fun e w' => e = .returned (.agg #[.bool (neg (ival b' (sval t - sval s))), .string (mag (ival b' (sval t - sval s)))]) ∧ Below w.heap.size w w' := by
  have hsz : (nstr (sval t - sval s)).size ≤ 268435456 := by have := nstr_le_size (v := sval t - sval s) (s := t) (by omega); omega
  have c1 := Lib.hid (fun W => rSub_any s t W (by omega) (by omega))
  have c3 := Lib.hid (fun W => rSub_any t s W (by omega) (by omega))
  have c2 := Lib.hid (fun W => rForm_any (nstr (sval t - sval s)) b' W hsz)
  rw [sval_nstr] at c2
  rw [if_pos hst] at c1
  rw [if_neg (by omega)] at c3
  clear hsz hst
  go_enter Tryz.func61, Tryz.ntmps61
  go_wp2_with fail
  have X1 := ((Bx.new w 27 #[.bool b, .string s]).alloc (.cells #[.bool b', .string t] 27)).alloc (.cells #[.bool false, .string ⟨#[]⟩] 27)
  have X2 := (Bx.at1 w (.cells #[.bool b, .string s] 27) 27 #[.bool b', .string t]).alloc (.cells #[.bool false, .string ⟨#[]⟩] 27)
  have X3 := Bx.at2 w (.cells #[.bool b, .string s] 27) (.cells #[.bool b', .string t] 27) 27 #[.bool false, .string ⟨#[]⟩]
  have hB := b3 w (.cells #[.bool b, .string s] 27) (.cells #[.bool b', .string t] 27) (.cells #[.bool false, .string ⟨#[]⟩] 27)
  generalize ((w.alloc (.cells #[.bool b, .string s] 27)).alloc (.cells #[.bool b', .string t] 27)).alloc (.cells #[.bool false, .string ⟨#[]⟩] 27) = w0 at *
  have hl0 := X1.lt
  have hl1 := X2.lt
  have hl2 := X3.lt
  obtain ⟨p1, p2, p3, p4⟩ := (X1).two
  obtain ⟨q1, q2, q3, q4⟩ := (X2).two
  obtain ⟨r1, r2, r3, r4⟩ := (X3).two
  refine (c1.out _).mono ?_
  rintro e w1 ⟨rfl, hb⟩
  replace X1 := X1.later hb
  replace X2 := X2.later hb
  replace X3 := X3.later hb
  replace hB := nxt hB hb
  clear hb p1 p2 p3 p4 q1 q2 q3 q4 r1 r2 r3 r4
  obtain ⟨p1, p2, p3, p4⟩ := (X1).two
  obtain ⟨q1, q2, q3, q4⟩ := (X2).two
  obtain ⟨r1, r2, r3, r4⟩ := (X3).two
  go_wp2_with fail
  refine (c3.out _).mono ?_
  rintro e w2 ⟨rfl, hb⟩
  replace X1 := X1.later hb
  replace X2 := X2.later hb
  replace X3 := X3.later hb
  replace hB := nxt hB hb
  clear hb p1 p2 p3 p4 q1 q2 q3 q4 r1 r2 r3 r4
  obtain ⟨p1, p2, p3, p4⟩ := (X1).two
  obtain ⟨q1, q2, q3, q4⟩ := (X2).two
  obtain ⟨r1, r2, r3, r4⟩ := (X3).two
  go_wp2_with fail
  refine (c2.out _).mono ?_
  rintro e w4 ⟨rfl, hb⟩
  replace X3 := X3.later hb
  replace hB := nxt hB hb
  clear hb p1 p2 p3 p4 q1 q2 q3 q4 r1 r2 r3 r4
  obtain ⟨r1, r2, r3, r4⟩ := X3.two
  go_wp2
  exact bodyPost_ret (v := .agg #[.bool (neg (ival b' (sval t - sval s))), .string (mag (ival b' (sval t - sval s)))]) (by simp [results, Tryz.results61, go_sem, (X3.set2 _ _).cel]) rfl ⟨rfl, st2 hB (Nat.le_add_right _ 2) _ _⟩

theorem rPlusW_any (s t : ByteArray) (b b' : Bool) (w : World) (hs : s.size ≤ 16777216) (ht : t.size ≤ 16777216) :
    Calls Tryz.prog 61 #[.agg #[.bool b, .string s], .agg #[.bool b', .string t]] w fun e w' => e = .returned (.agg #[.bool (neg (ival b (sval s) + ival b' (sval t))), .string (mag (ival b (sval s) + ival b' (sval t)))]) ∧ Below w.heap.size w w' := by
  obtain ⟨h1, h2, h3⟩ := ival_sum b b' (sval s) (sval t)
  cases hbb : (b == b')
  · rcases Nat.lt_or_ge (sval s) (sval t) with hst | hst
    · rw [h3 hbb hst]; exact rplus_lt s t b b' w hs ht hbb hst
    · rw [h2 hbb hst]; exact rplus_ge s t b b' w hs ht hbb hst
  · have e : b = b' := by simpa using hbb
    subst e
    rw [h1 rfl]; exact rplus_same s t b w hs ht

end Go.Proofs.YtibbhpgpleeglaaGreatDoor

/- The walks of the document's answers for whole numbers: Add, Mul, Pow. -/
namespace Go.Proofs.YtibbhpgpleeglaaGreatDoor
open Go.RowKit

end Go.Proofs.YtibbhpgpleeglaaGreatDoor

