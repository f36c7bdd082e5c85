/- The walks and plain laws beneath the statements. -/
import Derived.Test.YtibbhpgpleeglaaGreatDoorPA20
import Derived.RegionTactic
namespace Go.Proofs.YtibbhpgpleeglaaGreatDoor
open Go.RowKit

set_option maxRecDepth 100000 in
set_option maxHeartbeats 400000 in
theorem rWDiv_zero (s t : ByteArray) (b b' : Bool) (w : World) (hs : s.size ≤ 16777216) (ht : t.size ≤ 16777216) (h0 : sval t = 0) :
    Calls Tryz.prog 68 #[.agg #[.bool b, .string s], .agg #[.bool b', .string t]] w fun e w' => e = .returned (.tuple #[.agg #[.bool false, .string ⟨#[]⟩], .agg #[.bool false, .string ⟨#[]⟩], .bool false]) ∧ Below w.heap.size w w' := by
  have cD := Lib.hid (fun W => rDiv_any s t W hs ht)
  simp only [if_pos h0] at cD
  clear h0
  go_enter Tryz.func68, Tryz.ntmps68
  go_wp2_with fail
  have Y1 := (((Bx.new w 27 #[.bool b, .string s]).alloc (.cells #[.bool b', .string t] 27)).alloc (.cells #[.bool false, .string ⟨#[]⟩] 27)).alloc (.cells #[.bool false, .string ⟨#[]⟩] 27)
  have Y2 := ((Bx.at1 w (.cells #[.bool b, .string s] 27) 27 #[.bool b', .string t]).alloc (.cells #[.bool false, .string ⟨#[]⟩] 27)).alloc (.cells #[.bool false, .string ⟨#[]⟩] 27)
  have Y3 := (Bx.at2 w (.cells #[.bool b, .string s] 27) (.cells #[.bool b', .string t] 27) 27 #[.bool false, .string ⟨#[]⟩]).alloc (.cells #[.bool false, .string ⟨#[]⟩] 27)
  have Y4 := Bx.at3 w (.cells #[.bool b, .string s] 27) (.cells #[.bool b', .string t] 27) (.cells #[.bool false, .string ⟨#[]⟩] 27) 27 #[.bool false, .string ⟨#[]⟩]
  have hB := b4 w (.cells #[.bool b, .string s] 27) (.cells #[.bool b', .string t] 27) (.cells #[.bool false, .string ⟨#[]⟩] 27) (.cells #[.bool false, .string ⟨#[]⟩] 27)
  generalize (((w.alloc (.cells #[.bool b, .string s] 27)).alloc (.cells #[.bool b', .string t] 27)).alloc (.cells #[.bool false, .string ⟨#[]⟩] 27)).alloc (.cells #[.bool false, .string ⟨#[]⟩] 27) = w0 at *
  have hl0 := Y1.lt
  have hl1 := Y2.lt
  have hl2 := Y3.lt
  have hl3 := Y4.lt
  refine (cD.out _).mono ?_
  rintro e w1 ⟨rfl, hb⟩
  replace Y1 := Y1.later hb
  replace Y2 := Y2.later hb
  replace Y3 := Y3.later hb
  replace Y4 := Y4.later hb
  replace hB := nxt hB hb
  clear hb
  obtain ⟨p1, p2, p3, p4⟩ := Y1.two
  obtain ⟨q1, q2, q3, q4⟩ := Y2.two
  obtain ⟨r1, r2, r3, r4⟩ := Y3.two
  obtain ⟨s1, s2, s3, s4⟩ := Y4.two
  go_wp2
  exact bodyPost_ret (v := .tuple #[.agg #[.bool false, .string ⟨#[]⟩], .agg #[.bool false, .string ⟨#[]⟩], .bool false]) (by simp [results, Tryz.results68, go_sem, ((Y3.set2 (.bool false) (.string ⟨#[]⟩)).far2 (g' := w.heap.size + 3) (i := 0) (j := 1) (by simp) (.bool false) (.string ⟨#[]⟩)).cel, ((Y4.far2 (g' := w.heap.size + 2) (i := 0) (j := 1) (by simp) (.bool false) (.string ⟨#[]⟩)).set2 (.bool false) (.string ⟨#[]⟩)).cel]) rfl ⟨rfl, st2 (st2 hB (Nat.le_add_right _ 2) _ _) (Nat.le_add_right _ 3) _ _⟩

set_option maxRecDepth 100000 in
set_option maxHeartbeats 1600000 in
theorem rWDiv_nofix (s t : ByteArray) (q r : Nat) (b b' : Bool) (w : World) (hs : s.size ≤ 16777216) (ht : t.size ≤ 16777216) (hv : 0 < sval t) (hq : q = sval s / sval t) (hr0 : r = sval s % sval t) (hsg : ¬ sgn (ival b r) < 0) :
    Calls Tryz.prog 68 #[.agg #[.bool b, .string s], .agg #[.bool b', .string t]] w fun e w' => e = .returned (.tuple #[.agg #[.bool (neg (ival (!(b == b')) q)), .string (mag (ival (!(b == b')) q))], .agg #[.bool (neg (ival b r)), .string (mag (ival b r))], .bool true]) ∧ Below w.heap.size w w' := by
  have hqs : (nstr q).size ≤ 16777216 := by rw [hq]; exact Nat.le_trans (nstr_le_size (Nat.div_le_self _ _)) hs
  have hrs : (nstr r).size ≤ 16777216 := by rw [hr0]; exact Nat.le_trans (nstr_le_size (Nat.le_of_lt (Nat.mod_lt _ hv))) ht
  have cD := Lib.hid (fun W => rDiv_any s t W hs ht)
  simp only [if_neg (Nat.ne_of_gt hv), ← hq, ← hr0] at cD
  have cF := Lib.hid (fun W => rForm_any (nstr q) (!(b == b')) W (by omega))
  have cG := Lib.hid (fun W => rForm_any (nstr r) b W (by omega))
  rw [sval_nstr] at cF cG
  have hms : (mag (ival b r)).size ≤ 16777216 := by rw [mag_ival]; exact hrs
  have hmq : (mag (ival (!(b == b')) q)).size ≤ 16777216 := by rw [mag_ival]; exact hqs
  have cS := Lib.hid (fun W => rWSign_any (mag (ival b r)) (neg (ival b r)) W (by omega))
  rw [ival_mk] at cS
  clear hv hqs hq hr0 hrs hms hmq
  go_enter Tryz.func68, Tryz.ntmps68
  go_wp2_with fail
  have Y1 := (((Bx.new w 27 #[.bool b, .string s]).alloc (.cells #[.bool b', .string t] 27)).alloc (.cells #[.bool false, .string ⟨#[]⟩] 27)).alloc (.cells #[.bool false, .string ⟨#[]⟩] 27)
  have Y2 := ((Bx.at1 w (.cells #[.bool b, .string s] 27) 27 #[.bool b', .string t]).alloc (.cells #[.bool false, .string ⟨#[]⟩] 27)).alloc (.cells #[.bool false, .string ⟨#[]⟩] 27)
  have Y3 := (Bx.at2 w (.cells #[.bool b, .string s] 27) (.cells #[.bool b', .string t] 27) 27 #[.bool false, .string ⟨#[]⟩]).alloc (.cells #[.bool false, .string ⟨#[]⟩] 27)
  have Y4 := Bx.at3 w (.cells #[.bool b, .string s] 27) (.cells #[.bool b', .string t] 27) (.cells #[.bool false, .string ⟨#[]⟩] 27) 27 #[.bool false, .string ⟨#[]⟩]
  have hB := b4 w (.cells #[.bool b, .string s] 27) (.cells #[.bool b', .string t] 27) (.cells #[.bool false, .string ⟨#[]⟩] 27) (.cells #[.bool false, .string ⟨#[]⟩] 27)
  generalize (((w.alloc (.cells #[.bool b, .string s] 27)).alloc (.cells #[.bool b', .string t] 27)).alloc (.cells #[.bool false, .string ⟨#[]⟩] 27)).alloc (.cells #[.bool false, .string ⟨#[]⟩] 27) = w0 at *
  have hl0 := Y1.lt
  have hl1 := Y2.lt
  have hl2 := Y3.lt
  have hl3 := Y4.lt
  refine (cD.out _).mono ?_
  rintro e w1 ⟨rfl, hb⟩
  replace Y1 := Y1.later hb
  replace Y2 := Y2.later hb
  replace Y3 := Y3.later hb
  replace Y4 := Y4.later hb
  replace hB := nxt hB hb
  clear hb
  obtain ⟨p1, p2, p3, p4⟩ := Y1.two
  obtain ⟨q1, q2, q3, q4⟩ := Y2.two
  obtain ⟨r1, r2, r3, r4⟩ := Y3.two
  obtain ⟨s1, s2, s3, s4⟩ := Y4.two
  go_wp2_with fail
  refine (cF.out _).mono ?_
  rintro e w2 ⟨rfl, hb⟩
  replace Y1 := Y1.later hb
  replace Y2 := Y2.later hb
  replace Y3 := Y3.later hb
  replace Y4 := Y4.later hb
  replace hB := nxt hB hb
  clear hb
  clear p1 p2 p3 p4 q1 q2 q3 q4 r1 r2 r3 r4 s1 s2 s3 s4
  have hg5 : w.heap.size + 3 < w2.heap.size := Y4.lt
  have Z := Bx.new w2 27 #[.bool (neg (ival (!(b == b')) q)), .string (mag (ival (!(b == b')) q))]
  replace Y1 := Y1.alloc (.cells #[.bool (neg (ival (!(b == b')) q)), .string (mag (ival (!(b == b')) q))] 27)
  replace Y2 := Y2.alloc (.cells #[.bool (neg (ival (!(b == b')) q)), .string (mag (ival (!(b == b')) q))] 27)
  replace Y3 := Y3.alloc (.cells #[.bool (neg (ival (!(b == b')) q)), .string (mag (ival (!(b == b')) q))] 27)
  replace Y4 := Y4.alloc (.cells #[.bool (neg (ival (!(b == b')) q)), .string (mag (ival (!(b == b')) q))] 27)
  replace hB := nxtA hB (.cells #[.bool (neg (ival (!(b == b')) q)), .string (mag (ival (!(b == b')) q))] 27)
  have Y5 := Z
  clear Z
  obtain ⟨p1, p2, p3, p4⟩ := Y1.two
  obtain ⟨q1, q2, q3, q4⟩ := Y2.two
  obtain ⟨r1, r2, r3, r4⟩ := Y3.two
  obtain ⟨s1, s2, s3, s4⟩ := Y4.two
  obtain ⟨u1, u2, u3, u4⟩ := Y5.two
  go_wp2_with fail
  generalize w2.alloc (.cells #[.bool (neg (ival (!(b == b')) q)), .string (mag (ival (!(b == b')) q))] 27) = w3 at *
  generalize w2.heap.size = g5 at *
  refine (cG.out _).mono ?_
  rintro e w4 ⟨rfl, hb⟩
  replace Y1 := Y1.later hb
  replace Y2 := Y2.later hb
  replace Y3 := Y3.later hb
  replace Y4 := Y4.later hb
  replace Y5 := Y5.later hb
  replace hB := nxt hB hb
  clear hb
  clear p1 p2 p3 p4 q1 q2 q3 q4 r1 r2 r3 r4 s1 s2 s3 s4 u1 u2 u3 u4
  have hg6 : g5 < w4.heap.size := Y5.lt
  have Z := Bx.new w4 27 #[.bool (neg (ival b r)), .string (mag (ival b r))]
  replace Y1 := Y1.alloc (.cells #[.bool (neg (ival b r)), .string (mag (ival b r))] 27)
  replace Y2 := Y2.alloc (.cells #[.bool (neg (ival b r)), .string (mag (ival b r))] 27)
  replace Y3 := Y3.alloc (.cells #[.bool (neg (ival b r)), .string (mag (ival b r))] 27)
  replace Y4 := Y4.alloc (.cells #[.bool (neg (ival b r)), .string (mag (ival b r))] 27)
  replace Y5 := Y5.alloc (.cells #[.bool (neg (ival b r)), .string (mag (ival b r))] 27)
  replace hB := nxtA hB (.cells #[.bool (neg (ival b r)), .string (mag (ival b r))] 27)
  have Y6 := Z
  clear Z
  obtain ⟨p1, p2, p3, p4⟩ := Y1.two
  obtain ⟨q1, q2, q3, q4⟩ := Y2.two
  obtain ⟨r1, r2, r3, r4⟩ := Y3.two
  obtain ⟨s1, s2, s3, s4⟩ := Y4.two
  obtain ⟨u1, u2, u3, u4⟩ := Y5.two
  obtain ⟨v1, v2, v3, v4⟩ := Y6.two
  go_wp2_with fail
  generalize w4.alloc (.cells #[.bool (neg (ival b r)), .string (mag (ival b r))] 27) = w5 at *
  generalize w4.heap.size = g6 at *
  refine (cS.out _).mono ?_
  rintro e w6 ⟨rfl, hb⟩
  replace Y1 := Y1.later hb
  replace Y2 := Y2.later hb
  replace Y3 := Y3.later hb
  replace Y4 := Y4.later hb
  replace Y5 := Y5.later hb
  replace Y6 := Y6.later hb
  replace hB := nxt hB hb
  clear hb
  clear p1 p2 p3 p4 q1 q2 q3 q4 r1 r2 r3 r4 s1 s2 s3 s4 u1 u2 u3 u4 v1 v2 v3 v4
  obtain ⟨p1, p2, p3, p4⟩ := Y1.two
  obtain ⟨q1, q2, q3, q4⟩ := Y2.two
  obtain ⟨r1, r2, r3, r4⟩ := Y3.two
  obtain ⟨s1, s2, s3, s4⟩ := Y4.two
  obtain ⟨u1, u2, u3, u4⟩ := Y5.two
  obtain ⟨v1, v2, v3, v4⟩ := Y6.two
  go_wp2_with fail
  go_region
  all_goals
    go_wp2
    exact bodyPost_ret (v := .tuple #[.agg #[.bool (neg (ival (!(b == b')) q)), .string (mag (ival (!(b == b')) q))], .agg #[.bool (neg (ival b r)), .string (mag (ival b r))], .bool true]) (by simp [results, Tryz.results68, go_sem, ((Y3.set2 (.bool (neg (ival (!(b == b')) q))) (.string (mag (ival (!(b == b')) q)))).far2 (g' := w.heap.size + 3) (i := 0) (j := 1) (by simp) (.bool (neg (ival b r))) (.string (mag (ival b r)))).cel, ((Y4.far2 (g' := w.heap.size + 2) (i := 0) (j := 1) (by simp) (.bool (neg (ival (!(b == b')) q))) (.string (mag (ival (!(b == b')) q)))).set2 (.bool (neg (ival b r))) (.string (mag (ival b r)))).cel]) rfl ⟨rfl, (st2 (st2 hB (Nat.le_add_right _ 2) _ _) (Nat.le_add_right _ 3) _ _).drew⟩

set_option maxRecDepth 100000 in
set_option maxHeartbeats 1600000 in
theorem rWDiv_fixt (s t : ByteArray) (q r : Nat) (w : World) (hs : s.size ≤ 16777216) (ht : t.size ≤ 16777216) (hv : 0 < sval t) (hq : q = sval s / sval t) (hr0 : r = sval s % sval t) (hsg : sgn (ival true r) < 0) :
    Calls Tryz.prog 68 #[.agg #[.bool true, .string s], .agg #[.bool true, .string t]] w fun e w' => e = .returned (.tuple #[.agg #[.bool (neg (ival false q + 1)), .string (mag (ival false q + 1))], .agg #[.bool (neg (ival true r + (sval t : Int))), .string (mag (ival true r + (sval t : Int)))], .bool true]) ∧ Below w.heap.size w w' := by
  have hqs : (nstr q).size ≤ 16777216 := by rw [hq]; exact Nat.le_trans (nstr_le_size (Nat.div_le_self _ _)) hs
  have hrs : (nstr r).size ≤ 16777216 := by rw [hr0]; exact Nat.le_trans (nstr_le_size (Nat.le_of_lt (Nat.mod_lt _ hv))) ht
  have cD := Lib.hid (fun W => rDiv_any s t W hs ht)
  simp only [if_neg (Nat.ne_of_gt hv), ← hq, ← hr0] at cD
  have cF := Lib.hid (fun W => rForm_any (nstr q) false W (by omega))
  have cG := Lib.hid (fun W => rForm_any (nstr r) true W (by omega))
  rw [sval_nstr] at cF cG
  have hms : (mag (ival true r)).size ≤ 16777216 := by rw [mag_ival]; exact hrs
  have hmq : (mag (ival false q)).size ≤ 16777216 := by rw [mag_ival]; exact hqs
  have cS := Lib.hid (fun W => rWSign_any (mag (ival true r)) (neg (ival true r)) W (by omega))
  rw [ival_mk] at cS
  have cP := Lib.hid (fun W => rPlusW_any (mag (ival true r)) t (neg (ival true r)) false W hms ht)
  rw [ival_mk, show ival false (sval t) = (sval t : Int) from rfl] at cP
  have cO := Lib.hid (fun W => rWOf_any (-1) W (by decide) (by decide))
  have cS2 := Lib.hid (fun W => rWSign_any t true W (by omega))
  have hs2 : sgn (ival true (sval t)) < 0 := by unfold sgn ival; simp; omega
  have cP2 := Lib.hid (fun W => rPlusW_any (mag (ival false q)) (mag (1)) (neg (ival false q)) (neg (1)) W hmq (by decide))
  rw [ival_mk, ival_mk] at cP2
  have cO2 := Lib.hid (fun W => rWOf_any 1 W (by decide) (by decide))
  clear hv hqs hq hr0 hrs hms hmq
  go_enter Tryz.func68, Tryz.ntmps68
  go_wp2_with fail
  have Y1 := (((Bx.new w 27 #[.bool true, .string s]).alloc (.cells #[.bool true, .string t] 27)).alloc (.cells #[.bool false, .string ⟨#[]⟩] 27)).alloc (.cells #[.bool false, .string ⟨#[]⟩] 27)
  have Y2 := ((Bx.at1 w (.cells #[.bool true, .string s] 27) 27 #[.bool true, .string t]).alloc (.cells #[.bool false, .string ⟨#[]⟩] 27)).alloc (.cells #[.bool false, .string ⟨#[]⟩] 27)
  have Y3 := (Bx.at2 w (.cells #[.bool true, .string s] 27) (.cells #[.bool true, .string t] 27) 27 #[.bool false, .string ⟨#[]⟩]).alloc (.cells #[.bool false, .string ⟨#[]⟩] 27)
  have Y4 := Bx.at3 w (.cells #[.bool true, .string s] 27) (.cells #[.bool true, .string t] 27) (.cells #[.bool false, .string ⟨#[]⟩] 27) 27 #[.bool false, .string ⟨#[]⟩]
  have hB := b4 w (.cells #[.bool true, .string s] 27) (.cells #[.bool true, .string t] 27) (.cells #[.bool false, .string ⟨#[]⟩] 27) (.cells #[.bool false, .string ⟨#[]⟩] 27)
  generalize (((w.alloc (.cells #[.bool true, .string s] 27)).alloc (.cells #[.bool true, .string t] 27)).alloc (.cells #[.bool false, .string ⟨#[]⟩] 27)).alloc (.cells #[.bool false, .string ⟨#[]⟩] 27) = w0 at *
  have hl0 := Y1.lt
  have hl1 := Y2.lt
  have hl2 := Y3.lt
  have hl3 := Y4.lt
  refine (cD.out _).mono ?_
  rintro e w1 ⟨rfl, hb⟩
  replace Y1 := Y1.later hb
  replace Y2 := Y2.later hb
  replace Y3 := Y3.later hb
  replace Y4 := Y4.later hb
  replace hB := nxt hB hb
  clear hb
  obtain ⟨p1, p2, p3, p4⟩ := Y1.two
  obtain ⟨q1, q2, q3, q4⟩ := Y2.two
  obtain ⟨r1, r2, r3, r4⟩ := Y3.two
  obtain ⟨s1, s2, s3, s4⟩ := Y4.two
  go_wp2_with fail
  refine (cF.out _).mono ?_
  rintro e w2 ⟨rfl, hb⟩
  replace Y1 := Y1.later hb
  replace Y2 := Y2.later hb
  replace Y3 := Y3.later hb
  replace Y4 := Y4.later hb
  replace hB := nxt hB hb
  clear hb
  clear p1 p2 p3 p4 q1 q2 q3 q4 r1 r2 r3 r4 s1 s2 s3 s4
  have hg5 : w.heap.size + 3 < w2.heap.size := Y4.lt
  have Z := Bx.new w2 27 #[.bool (neg (ival false q)), .string (mag (ival false q))]
  replace Y1 := Y1.alloc (.cells #[.bool (neg (ival false q)), .string (mag (ival false q))] 27)
  replace Y2 := Y2.alloc (.cells #[.bool (neg (ival false q)), .string (mag (ival false q))] 27)
  replace Y3 := Y3.alloc (.cells #[.bool (neg (ival false q)), .string (mag (ival false q))] 27)
  replace Y4 := Y4.alloc (.cells #[.bool (neg (ival false q)), .string (mag (ival false q))] 27)
  replace hB := nxtA hB (.cells #[.bool (neg (ival false q)), .string (mag (ival false q))] 27)
  have Y5 := Z
  clear Z
  obtain ⟨p1, p2, p3, p4⟩ := Y1.two
  obtain ⟨q1, q2, q3, q4⟩ := Y2.two
  obtain ⟨r1, r2, r3, r4⟩ := Y3.two
  obtain ⟨s1, s2, s3, s4⟩ := Y4.two
  obtain ⟨u1, u2, u3, u4⟩ := Y5.two
  go_wp2_with fail
  generalize w2.alloc (.cells #[.bool (neg (ival false q)), .string (mag (ival false q))] 27) = w3 at *
  generalize w2.heap.size = g5 at *
  refine (cG.out _).mono ?_
  rintro e w4 ⟨rfl, hb⟩
  replace Y1 := Y1.later hb
  replace Y2 := Y2.later hb
  replace Y3 := Y3.later hb
  replace Y4 := Y4.later hb
  replace Y5 := Y5.later hb
  replace hB := nxt hB hb
  clear hb
  clear p1 p2 p3 p4 q1 q2 q3 q4 r1 r2 r3 r4 s1 s2 s3 s4 u1 u2 u3 u4
  have hg6 : g5 < w4.heap.size := Y5.lt
  have Z := Bx.new w4 27 #[.bool (neg (ival true r)), .string (mag (ival true r))]
  replace Y1 := Y1.alloc (.cells #[.bool (neg (ival true r)), .string (mag (ival true r))] 27)
  replace Y2 := Y2.alloc (.cells #[.bool (neg (ival true r)), .string (mag (ival true r))] 27)
  replace Y3 := Y3.alloc (.cells #[.bool (neg (ival true r)), .string (mag (ival true r))] 27)
  replace Y4 := Y4.alloc (.cells #[.bool (neg (ival true r)), .string (mag (ival true r))] 27)
  replace Y5 := Y5.alloc (.cells #[.bool (neg (ival true r)), .string (mag (ival true r))] 27)
  replace hB := nxtA hB (.cells #[.bool (neg (ival true r)), .string (mag (ival true r))] 27)
  have Y6 := Z
  clear Z
  obtain ⟨p1, p2, p3, p4⟩ := Y1.two
  obtain ⟨q1, q2, q3, q4⟩ := Y2.two
  obtain ⟨r1, r2, r3, r4⟩ := Y3.two
  obtain ⟨s1, s2, s3, s4⟩ := Y4.two
  obtain ⟨u1, u2, u3, u4⟩ := Y5.two
  obtain ⟨v1, v2, v3, v4⟩ := Y6.two
  go_wp2_with fail
  generalize w4.alloc (.cells #[.bool (neg (ival true r)), .string (mag (ival true r))] 27) = w5 at *
  generalize w4.heap.size = g6 at *
  refine (cS.out _).mono ?_
  rintro e w6 ⟨rfl, hb⟩
  replace Y1 := Y1.later hb
  replace Y2 := Y2.later hb
  replace Y3 := Y3.later hb
  replace Y4 := Y4.later hb
  replace Y5 := Y5.later hb
  replace Y6 := Y6.later hb
  replace hB := nxt hB hb
  clear hb
  clear p1 p2 p3 p4 q1 q2 q3 q4 r1 r2 r3 r4 s1 s2 s3 s4 u1 u2 u3 u4 v1 v2 v3 v4
  obtain ⟨p1, p2, p3, p4⟩ := Y1.two
  obtain ⟨q1, q2, q3, q4⟩ := Y2.two
  obtain ⟨r1, r2, r3, r4⟩ := Y3.two
  obtain ⟨s1, s2, s3, s4⟩ := Y4.two
  obtain ⟨u1, u2, u3, u4⟩ := Y5.two
  obtain ⟨v1, v2, v3, v4⟩ := Y6.two
  go_wp2_with fail
  refine (cP.out _).mono ?_
  rintro e w7 ⟨rfl, hb⟩
  replace Y1 := Y1.later hb
  replace Y2 := Y2.later hb
  replace Y3 := Y3.later hb
  replace Y4 := Y4.later hb
  replace Y5 := Y5.later hb
  replace Y6 := Y6.later hb
  replace hB := nxt hB hb
  clear hb
  clear p1 p2 p3 p4 q1 q2 q3 q4 r1 r2 r3 r4 s1 s2 s3 s4 u1 u2 u3 u4 v1 v2 v3 v4
  obtain ⟨p1, p2, p3, p4⟩ := Y1.two
  obtain ⟨q1, q2, q3, q4⟩ := Y2.two
  obtain ⟨r1, r2, r3, r4⟩ := Y3.two
  obtain ⟨s1, s2, s3, s4⟩ := Y4.two
  obtain ⟨u1, u2, u3, u4⟩ := Y5.two
  obtain ⟨v1, v2, v3, v4⟩ := Y6.two
  replace Y1 := Y1.far2 (g' := g6) (i := 0) (j := 1) (by omega) (.bool (neg (ival true r + (sval t : Int)))) (.string (mag (ival true r + (sval t : Int))))
  replace Y2 := Y2.far2 (g' := g6) (i := 0) (j := 1) (by omega) (.bool (neg (ival true r + (sval t : Int)))) (.string (mag (ival true r + (sval t : Int))))
  replace Y3 := Y3.far2 (g' := g6) (i := 0) (j := 1) (by omega) (.bool (neg (ival true r + (sval t : Int)))) (.string (mag (ival true r + (sval t : Int))))
  replace Y4 := Y4.far2 (g' := g6) (i := 0) (j := 1) (by omega) (.bool (neg (ival true r + (sval t : Int)))) (.string (mag (ival true r + (sval t : Int))))
  replace Y5 := Y5.far2 (g' := g6) (i := 0) (j := 1) (by omega) (.bool (neg (ival true r + (sval t : Int)))) (.string (mag (ival true r + (sval t : Int))))
  replace Y6 := Y6.set2 (.bool (neg (ival true r + (sval t : Int)))) (.string (mag (ival true r + (sval t : Int))))
  replace hB := st2 (g := g6) hB (by omega) (.bool (neg (ival true r + (sval t : Int)))) (.string (mag (ival true r + (sval t : Int))))
  go_wp2_with fail
  generalize (w7.setCell ⟨g6, 0, none⟩ (.bool (neg (ival true r + (sval t : Int))))).setCell ⟨g6, 1, none⟩ (.string (mag (ival true r + (sval t : Int)))) = w8 at *
  clear p1 p2 p3 p4 q1 q2 q3 q4 r1 r2 r3 r4 s1 s2 s3 s4 u1 u2 u3 u4 v1 v2 v3 v4
  obtain ⟨p1, p2, p3, p4⟩ := Y1.two
  obtain ⟨q1, q2, q3, q4⟩ := Y2.two
  obtain ⟨r1, r2, r3, r4⟩ := Y3.two
  obtain ⟨s1, s2, s3, s4⟩ := Y4.two
  obtain ⟨u1, u2, u3, u4⟩ := Y5.two
  obtain ⟨v1, v2, v3, v4⟩ := Y6.two
  refine (cO.out _).mono ?_
  rintro e w9 ⟨rfl, hb⟩
  replace Y1 := Y1.later hb
  replace Y2 := Y2.later hb
  replace Y3 := Y3.later hb
  replace Y4 := Y4.later hb
  replace Y5 := Y5.later hb
  replace Y6 := Y6.later hb
  replace hB := nxt hB hb
  clear hb
  clear p1 p2 p3 p4 q1 q2 q3 q4 r1 r2 r3 r4 s1 s2 s3 s4 u1 u2 u3 u4 v1 v2 v3 v4
  have hg7 : g6 < w9.heap.size := Y6.lt
  have Z := Bx.new w9 27 #[.bool (neg (-1)), .string (mag (-1))]
  replace Y1 := Y1.alloc (.cells #[.bool (neg (-1)), .string (mag (-1))] 27)
  replace Y2 := Y2.alloc (.cells #[.bool (neg (-1)), .string (mag (-1))] 27)
  replace Y3 := Y3.alloc (.cells #[.bool (neg (-1)), .string (mag (-1))] 27)
  replace Y4 := Y4.alloc (.cells #[.bool (neg (-1)), .string (mag (-1))] 27)
  replace Y5 := Y5.alloc (.cells #[.bool (neg (-1)), .string (mag (-1))] 27)
  replace Y6 := Y6.alloc (.cells #[.bool (neg (-1)), .string (mag (-1))] 27)
  replace hB := nxtA hB (.cells #[.bool (neg (-1)), .string (mag (-1))] 27)
  have Y7 := Z
  clear Z
  obtain ⟨p1, p2, p3, p4⟩ := Y1.two
  obtain ⟨q1, q2, q3, q4⟩ := Y2.two
  obtain ⟨r1, r2, r3, r4⟩ := Y3.two
  obtain ⟨s1, s2, s3, s4⟩ := Y4.two
  obtain ⟨u1, u2, u3, u4⟩ := Y5.two
  obtain ⟨v1, v2, v3, v4⟩ := Y6.two
  obtain ⟨x1, x2, x3, x4⟩ := Y7.two
  go_wp2_with fail
  generalize w9.alloc (.cells #[.bool (neg (-1)), .string (mag (-1))] 27) = w10 at *
  generalize w9.heap.size = g7 at *
  refine (cS2.out _).mono ?_
  rintro e w11 ⟨rfl, hb⟩
  replace Y1 := Y1.later hb
  replace Y2 := Y2.later hb
  replace Y3 := Y3.later hb
  replace Y4 := Y4.later hb
  replace Y5 := Y5.later hb
  replace Y6 := Y6.later hb
  replace Y7 := Y7.later hb
  replace hB := nxt hB hb
  clear hb
  clear p1 p2 p3 p4 q1 q2 q3 q4 r1 r2 r3 r4 s1 s2 s3 s4 u1 u2 u3 u4 v1 v2 v3 v4 x1 x2 x3 x4
  obtain ⟨p1, p2, p3, p4⟩ := Y1.two
  obtain ⟨q1, q2, q3, q4⟩ := Y2.two
  obtain ⟨r1, r2, r3, r4⟩ := Y3.two
  obtain ⟨s1, s2, s3, s4⟩ := Y4.two
  obtain ⟨u1, u2, u3, u4⟩ := Y5.two
  obtain ⟨v1, v2, v3, v4⟩ := Y6.two
  obtain ⟨x1, x2, x3, x4⟩ := Y7.two
  go_wp2_with fail
  refine (cO2.out _).mono ?_
  rintro e w12 ⟨rfl, hb⟩
  replace Y1 := Y1.later hb
  replace Y2 := Y2.later hb
  replace Y3 := Y3.later hb
  replace Y4 := Y4.later hb
  replace Y5 := Y5.later hb
  replace Y6 := Y6.later hb
  replace Y7 := Y7.later hb
  replace hB := nxt hB hb
  clear hb
  clear p1 p2 p3 p4 q1 q2 q3 q4 r1 r2 r3 r4 s1 s2 s3 s4 u1 u2 u3 u4 v1 v2 v3 v4 x1 x2 x3 x4
  obtain ⟨p1, p2, p3, p4⟩ := Y1.two
  obtain ⟨q1, q2, q3, q4⟩ := Y2.two
  obtain ⟨r1, r2, r3, r4⟩ := Y3.two
  obtain ⟨s1, s2, s3, s4⟩ := Y4.two
  obtain ⟨u1, u2, u3, u4⟩ := Y5.two
  obtain ⟨v1, v2, v3, v4⟩ := Y6.two
  obtain ⟨x1, x2, x3, x4⟩ := Y7.two
  replace Y1 := Y1.far2 (g' := g7) (i := 0) (j := 1) (by omega) (.bool (neg 1)) (.string (mag 1))
  replace Y2 := Y2.far2 (g' := g7) (i := 0) (j := 1) (by omega) (.bool (neg 1)) (.string (mag 1))
  replace Y3 := Y3.far2 (g' := g7) (i := 0) (j := 1) (by omega) (.bool (neg 1)) (.string (mag 1))
  replace Y4 := Y4.far2 (g' := g7) (i := 0) (j := 1) (by omega) (.bool (neg 1)) (.string (mag 1))
  replace Y5 := Y5.far2 (g' := g7) (i := 0) (j := 1) (by omega) (.bool (neg 1)) (.string (mag 1))
  replace Y6 := Y6.far2 (g' := g7) (i := 0) (j := 1) (by omega) (.bool (neg 1)) (.string (mag 1))
  replace Y7 := Y7.set2 (.bool (neg 1)) (.string (mag 1))
  replace hB := st2 (g := g7) hB (by omega) (.bool (neg 1)) (.string (mag 1))
  go_wp2_with fail
  generalize (w12.setCell ⟨g7, 0, none⟩ (.bool (neg 1))).setCell ⟨g7, 1, none⟩ (.string (mag 1)) = w13 at *
  clear p1 p2 p3 p4 q1 q2 q3 q4 r1 r2 r3 r4 s1 s2 s3 s4 u1 u2 u3 u4 v1 v2 v3 v4 x1 x2 x3 x4
  obtain ⟨p1, p2, p3, p4⟩ := Y1.two
  obtain ⟨q1, q2, q3, q4⟩ := Y2.two
  obtain ⟨r1, r2, r3, r4⟩ := Y3.two
  obtain ⟨s1, s2, s3, s4⟩ := Y4.two
  obtain ⟨u1, u2, u3, u4⟩ := Y5.two
  obtain ⟨v1, v2, v3, v4⟩ := Y6.two
  obtain ⟨x1, x2, x3, x4⟩ := Y7.two
  refine (cP2.out _).mono ?_
  rintro e w14 ⟨rfl, hb⟩
  replace Y1 := Y1.later hb
  replace Y2 := Y2.later hb
  replace Y3 := Y3.later hb
  replace Y4 := Y4.later hb
  replace Y5 := Y5.later hb
  replace Y6 := Y6.later hb
  replace Y7 := Y7.later hb
  replace hB := nxt hB hb
  clear hb
  clear p1 p2 p3 p4 q1 q2 q3 q4 r1 r2 r3 r4 s1 s2 s3 s4 u1 u2 u3 u4 v1 v2 v3 v4 x1 x2 x3 x4
  obtain ⟨p1, p2, p3, p4⟩ := Y1.two
  obtain ⟨q1, q2, q3, q4⟩ := Y2.two
  obtain ⟨r1, r2, r3, r4⟩ := Y3.two
  obtain ⟨s1, s2, s3, s4⟩ := Y4.two
  obtain ⟨u1, u2, u3, u4⟩ := Y5.two
  obtain ⟨v1, v2, v3, v4⟩ := Y6.two
  obtain ⟨x1, x2, x3, x4⟩ := Y7.two
  replace Y1 := Y1.far2 (g' := g5) (i := 0) (j := 1) (by omega) (.bool (neg (ival false q + 1))) (.string (mag (ival false q + 1)))
  replace Y2 := Y2.far2 (g' := g5) (i := 0) (j := 1) (by omega) (.bool (neg (ival false q + 1))) (.string (mag (ival false q + 1)))
  replace Y3 := Y3.far2 (g' := g5) (i := 0) (j := 1) (by omega) (.bool (neg (ival false q + 1))) (.string (mag (ival false q + 1)))
  replace Y4 := Y4.far2 (g' := g5) (i := 0) (j := 1) (by omega) (.bool (neg (ival false q + 1))) (.string (mag (ival false q + 1)))
  replace Y5 := Y5.set2 (.bool (neg (ival false q + 1))) (.string (mag (ival false q + 1)))
  replace Y6 := Y6.far2 (g' := g5) (i := 0) (j := 1) (by omega) (.bool (neg (ival false q + 1))) (.string (mag (ival false q + 1)))
  replace Y7 := Y7.far2 (g' := g5) (i := 0) (j := 1) (by omega) (.bool (neg (ival false q + 1))) (.string (mag (ival false q + 1)))
  replace hB := st2 (g := g5) hB (by omega) (.bool (neg (ival false q + 1))) (.string (mag (ival false q + 1)))
  go_wp2_with fail
  generalize (w14.setCell ⟨g5, 0, none⟩ (.bool (neg (ival false q + 1)))).setCell ⟨g5, 1, none⟩ (.string (mag (ival false q + 1))) = w15 at *
  clear p1 p2 p3 p4 q1 q2 q3 q4 r1 r2 r3 r4 s1 s2 s3 s4 u1 u2 u3 u4 v1 v2 v3 v4 x1 x2 x3 x4
  obtain ⟨p1, p2, p3, p4⟩ := Y1.two
  obtain ⟨q1, q2, q3, q4⟩ := Y2.two
  obtain ⟨r1, r2, r3, r4⟩ := Y3.two
  obtain ⟨s1, s2, s3, s4⟩ := Y4.two
  obtain ⟨u1, u2, u3, u4⟩ := Y5.two
  obtain ⟨v1, v2, v3, v4⟩ := Y6.two
  obtain ⟨x1, x2, x3, x4⟩ := Y7.two
  go_region
  all_goals
    go_wp2
    exact bodyPost_ret (v := .tuple #[.agg #[.bool (neg (ival false q + 1)), .string (mag (ival false q + 1))], .agg #[.bool (neg (ival true r + (sval t : Int))), .string (mag (ival true r + (sval t : Int)))], .bool true]) (by simp [results, Tryz.results68, go_sem, ((Y3.set2 (.bool (neg (ival false q + 1))) (.string (mag (ival false q + 1)))).far2 (g' := w.heap.size + 3) (i := 0) (j := 1) (by simp) (.bool (neg (ival true r + (sval t : Int)))) (.string (mag (ival true r + (sval t : Int))))).cel, ((Y4.far2 (g' := w.heap.size + 2) (i := 0) (j := 1) (by simp) (.bool (neg (ival false q + 1))) (.string (mag (ival false q + 1)))).set2 (.bool (neg (ival true r + (sval t : Int)))) (.string (mag (ival true r + (sval t : Int))))).cel]) rfl ⟨rfl, (st2 (st2 hB (Nat.le_add_right _ 2) _ _) (Nat.le_add_right _ 3) _ _).drew⟩

set_option maxRecDepth 100000 in
set_option maxHeartbeats 1600000 in
theorem rWDiv_fixf (s t : ByteArray) (q r : Nat) (w : World) (hs : s.size ≤ 16777216) (ht : t.size ≤ 16777216) (hv : 0 < sval t) (hq : q = sval s / sval t) (hr0 : r = sval s % sval t) (hsg : sgn (ival true r) < 0) :
    Calls Tryz.prog 68 #[.agg #[.bool true, .string s], .agg #[.bool false, .string t]] w fun e w' => e = .returned (.tuple #[.agg #[.bool (neg (ival true q + -1)), .string (mag (ival true q + -1))], .agg #[.bool (neg (ival true r + (sval t : Int))), .string (mag (ival true r + (sval t : Int)))], .bool true]) ∧ Below w.heap.size w w' := by
  have hqs : (nstr q).size ≤ 16777216 := by rw [hq]; exact Nat.le_trans (nstr_le_size (Nat.div_le_self _ _)) hs
  have hrs : (nstr r).size ≤ 16777216 := by rw [hr0]; exact Nat.le_trans (nstr_le_size (Nat.le_of_lt (Nat.mod_lt _ hv))) ht
  have cD := Lib.hid (fun W => rDiv_any s t W hs ht)
  simp only [if_neg (Nat.ne_of_gt hv), ← hq, ← hr0] at cD
  have cF := Lib.hid (fun W => rForm_any (nstr q) true W (by omega))
  have cG := Lib.hid (fun W => rForm_any (nstr r) true W (by omega))
  rw [sval_nstr] at cF cG
  have hms : (mag (ival true r)).size ≤ 16777216 := by rw [mag_ival]; exact hrs
  have hmq : (mag (ival true q)).size ≤ 16777216 := by rw [mag_ival]; exact hqs
  have cS := Lib.hid (fun W => rWSign_any (mag (ival true r)) (neg (ival true r)) W (by omega))
  rw [ival_mk] at cS
  have cP := Lib.hid (fun W => rPlusW_any (mag (ival true r)) t (neg (ival true r)) false W hms ht)
  rw [ival_mk, show ival false (sval t) = (sval t : Int) from rfl] at cP
  have cO := Lib.hid (fun W => rWOf_any (-1) W (by decide) (by decide))
  have cS2 := Lib.hid (fun W => rWSign_any t false W (by omega))
  have hs2 : ¬ sgn (ival false (sval t)) < 0 := by unfold sgn ival; simp; omega
  have cP2 := Lib.hid (fun W => rPlusW_any (mag (ival true q)) (mag (-1)) (neg (ival true q)) (neg (-1)) W hmq (by decide))
  rw [ival_mk, ival_mk] at cP2
  clear hv hqs hq hr0 hrs hms hmq
  go_enter Tryz.func68, Tryz.ntmps68
  go_wp2_with fail
  have Y1 := (((Bx.new w 27 #[.bool true, .string s]).alloc (.cells #[.bool false, .string t] 27)).alloc (.cells #[.bool false, .string ⟨#[]⟩] 27)).alloc (.cells #[.bool false, .string ⟨#[]⟩] 27)
  have Y2 := ((Bx.at1 w (.cells #[.bool true, .string s] 27) 27 #[.bool false, .string t]).alloc (.cells #[.bool false, .string ⟨#[]⟩] 27)).alloc (.cells #[.bool false, .string ⟨#[]⟩] 27)
  have Y3 := (Bx.at2 w (.cells #[.bool true, .string s] 27) (.cells #[.bool false, .string t] 27) 27 #[.bool false, .string ⟨#[]⟩]).alloc (.cells #[.bool false, .string ⟨#[]⟩] 27)
  have Y4 := Bx.at3 w (.cells #[.bool true, .string s] 27) (.cells #[.bool false, .string t] 27) (.cells #[.bool false, .string ⟨#[]⟩] 27) 27 #[.bool false, .string ⟨#[]⟩]
  have hB := b4 w (.cells #[.bool true, .string s] 27) (.cells #[.bool false, .string t] 27) (.cells #[.bool false, .string ⟨#[]⟩] 27) (.cells #[.bool false, .string ⟨#[]⟩] 27)
  generalize (((w.alloc (.cells #[.bool true, .string s] 27)).alloc (.cells #[.bool false, .string t] 27)).alloc (.cells #[.bool false, .string ⟨#[]⟩] 27)).alloc (.cells #[.bool false, .string ⟨#[]⟩] 27) = w0 at *
  have hl0 := Y1.lt
  have hl1 := Y2.lt
  have hl2 := Y3.lt
  have hl3 := Y4.lt
  refine (cD.out _).mono ?_
  rintro e w1 ⟨rfl, hb⟩
  replace Y1 := Y1.later hb
  replace Y2 := Y2.later hb
  replace Y3 := Y3.later hb
  replace Y4 := Y4.later hb
  replace hB := nxt hB hb
  clear hb
  obtain ⟨p1, p2, p3, p4⟩ := Y1.two
  obtain ⟨q1, q2, q3, q4⟩ := Y2.two
  obtain ⟨r1, r2, r3, r4⟩ := Y3.two
  obtain ⟨s1, s2, s3, s4⟩ := Y4.two
  go_wp2_with fail
  refine (cF.out _).mono ?_
  rintro e w2 ⟨rfl, hb⟩
  replace Y1 := Y1.later hb
  replace Y2 := Y2.later hb
  replace Y3 := Y3.later hb
  replace Y4 := Y4.later hb
  replace hB := nxt hB hb
  clear hb
  clear p1 p2 p3 p4 q1 q2 q3 q4 r1 r2 r3 r4 s1 s2 s3 s4
  have hg5 : w.heap.size + 3 < w2.heap.size := Y4.lt
  have Z := Bx.new w2 27 #[.bool (neg (ival true q)), .string (mag (ival true q))]
  replace Y1 := Y1.alloc (.cells #[.bool (neg (ival true q)), .string (mag (ival true q))] 27)
  replace Y2 := Y2.alloc (.cells #[.bool (neg (ival true q)), .string (mag (ival true q))] 27)
  replace Y3 := Y3.alloc (.cells #[.bool (neg (ival true q)), .string (mag (ival true q))] 27)
  replace Y4 := Y4.alloc (.cells #[.bool (neg (ival true q)), .string (mag (ival true q))] 27)
  replace hB := nxtA hB (.cells #[.bool (neg (ival true q)), .string (mag (ival true q))] 27)
  have Y5 := Z
  clear Z
  obtain ⟨p1, p2, p3, p4⟩ := Y1.two
  obtain ⟨q1, q2, q3, q4⟩ := Y2.two
  obtain ⟨r1, r2, r3, r4⟩ := Y3.two
  obtain ⟨s1, s2, s3, s4⟩ := Y4.two
  obtain ⟨u1, u2, u3, u4⟩ := Y5.two
  go_wp2_with fail
  generalize w2.alloc (.cells #[.bool (neg (ival true q)), .string (mag (ival true q))] 27) = w3 at *
  generalize w2.heap.size = g5 at *
  refine (cG.out _).mono ?_
  rintro e w4 ⟨rfl, hb⟩
  replace Y1 := Y1.later hb
  replace Y2 := Y2.later hb
  replace Y3 := Y3.later hb
  replace Y4 := Y4.later hb
  replace Y5 := Y5.later hb
  replace hB := nxt hB hb
  clear hb
  clear p1 p2 p3 p4 q1 q2 q3 q4 r1 r2 r3 r4 s1 s2 s3 s4 u1 u2 u3 u4
  have hg6 : g5 < w4.heap.size := Y5.lt
  have Z := Bx.new w4 27 #[.bool (neg (ival true r)), .string (mag (ival true r))]
  replace Y1 := Y1.alloc (.cells #[.bool (neg (ival true r)), .string (mag (ival true r))] 27)
  replace Y2 := Y2.alloc (.cells #[.bool (neg (ival true r)), .string (mag (ival true r))] 27)
  replace Y3 := Y3.alloc (.cells #[.bool (neg (ival true r)), .string (mag (ival true r))] 27)
  replace Y4 := Y4.alloc (.cells #[.bool (neg (ival true r)), .string (mag (ival true r))] 27)
  replace Y5 := Y5.alloc (.cells #[.bool (neg (ival true r)), .string (mag (ival true r))] 27)
  replace hB := nxtA hB (.cells #[.bool (neg (ival true r)), .string (mag (ival true r))] 27)
  have Y6 := Z
  clear Z
  obtain ⟨p1, p2, p3, p4⟩ := Y1.two
  obtain ⟨q1, q2, q3, q4⟩ := Y2.two
  obtain ⟨r1, r2, r3, r4⟩ := Y3.two
  obtain ⟨s1, s2, s3, s4⟩ := Y4.two
  obtain ⟨u1, u2, u3, u4⟩ := Y5.two
  obtain ⟨v1, v2, v3, v4⟩ := Y6.two
  go_wp2_with fail
  generalize w4.alloc (.cells #[.bool (neg (ival true r)), .string (mag (ival true r))] 27) = w5 at *
  generalize w4.heap.size = g6 at *
  refine (cS.out _).mono ?_
  rintro e w6 ⟨rfl, hb⟩
  replace Y1 := Y1.later hb
  replace Y2 := Y2.later hb
  replace Y3 := Y3.later hb
  replace Y4 := Y4.later hb
  replace Y5 := Y5.later hb
  replace Y6 := Y6.later hb
  replace hB := nxt hB hb
  clear hb
  clear p1 p2 p3 p4 q1 q2 q3 q4 r1 r2 r3 r4 s1 s2 s3 s4 u1 u2 u3 u4 v1 v2 v3 v4
  obtain ⟨p1, p2, p3, p4⟩ := Y1.two
  obtain ⟨q1, q2, q3, q4⟩ := Y2.two
  obtain ⟨r1, r2, r3, r4⟩ := Y3.two
  obtain ⟨s1, s2, s3, s4⟩ := Y4.two
  obtain ⟨u1, u2, u3, u4⟩ := Y5.two
  obtain ⟨v1, v2, v3, v4⟩ := Y6.two
  go_wp2_with fail
  refine (cP.out _).mono ?_
  rintro e w7 ⟨rfl, hb⟩
  replace Y1 := Y1.later hb
  replace Y2 := Y2.later hb
  replace Y3 := Y3.later hb
  replace Y4 := Y4.later hb
  replace Y5 := Y5.later hb
  replace Y6 := Y6.later hb
  replace hB := nxt hB hb
  clear hb
  clear p1 p2 p3 p4 q1 q2 q3 q4 r1 r2 r3 r4 s1 s2 s3 s4 u1 u2 u3 u4 v1 v2 v3 v4
  obtain ⟨p1, p2, p3, p4⟩ := Y1.two
  obtain ⟨q1, q2, q3, q4⟩ := Y2.two
  obtain ⟨r1, r2, r3, r4⟩ := Y3.two
  obtain ⟨s1, s2, s3, s4⟩ := Y4.two
  obtain ⟨u1, u2, u3, u4⟩ := Y5.two
  obtain ⟨v1, v2, v3, v4⟩ := Y6.two
  replace Y1 := Y1.far2 (g' := g6) (i := 0) (j := 1) (by omega) (.bool (neg (ival true r + (sval t : Int)))) (.string (mag (ival true r + (sval t : Int))))
  replace Y2 := Y2.far2 (g' := g6) (i := 0) (j := 1) (by omega) (.bool (neg (ival true r + (sval t : Int)))) (.string (mag (ival true r + (sval t : Int))))
  replace Y3 := Y3.far2 (g' := g6) (i := 0) (j := 1) (by omega) (.bool (neg (ival true r + (sval t : Int)))) (.string (mag (ival true r + (sval t : Int))))
  replace Y4 := Y4.far2 (g' := g6) (i := 0) (j := 1) (by omega) (.bool (neg (ival true r + (sval t : Int)))) (.string (mag (ival true r + (sval t : Int))))
  replace Y5 := Y5.far2 (g' := g6) (i := 0) (j := 1) (by omega) (.bool (neg (ival true r + (sval t : Int)))) (.string (mag (ival true r + (sval t : Int))))
  replace Y6 := Y6.set2 (.bool (neg (ival true r + (sval t : Int)))) (.string (mag (ival true r + (sval t : Int))))
  replace hB := st2 (g := g6) hB (by omega) (.bool (neg (ival true r + (sval t : Int)))) (.string (mag (ival true r + (sval t : Int))))
  go_wp2_with fail
  generalize (w7.setCell ⟨g6, 0, none⟩ (.bool (neg (ival true r + (sval t : Int))))).setCell ⟨g6, 1, none⟩ (.string (mag (ival true r + (sval t : Int)))) = w8 at *
  clear p1 p2 p3 p4 q1 q2 q3 q4 r1 r2 r3 r4 s1 s2 s3 s4 u1 u2 u3 u4 v1 v2 v3 v4
  obtain ⟨p1, p2, p3, p4⟩ := Y1.two
  obtain ⟨q1, q2, q3, q4⟩ := Y2.two
  obtain ⟨r1, r2, r3, r4⟩ := Y3.two
  obtain ⟨s1, s2, s3, s4⟩ := Y4.two
  obtain ⟨u1, u2, u3, u4⟩ := Y5.two
  obtain ⟨v1, v2, v3, v4⟩ := Y6.two
  refine (cO.out _).mono ?_
  rintro e w9 ⟨rfl, hb⟩
  replace Y1 := Y1.later hb
  replace Y2 := Y2.later hb
  replace Y3 := Y3.later hb
  replace Y4 := Y4.later hb
  replace Y5 := Y5.later hb
  replace Y6 := Y6.later hb
  replace hB := nxt hB hb
  clear hb
  clear p1 p2 p3 p4 q1 q2 q3 q4 r1 r2 r3 r4 s1 s2 s3 s4 u1 u2 u3 u4 v1 v2 v3 v4
  have hg7 : g6 < w9.heap.size := Y6.lt
  have Z := Bx.new w9 27 #[.bool (neg (-1)), .string (mag (-1))]
  replace Y1 := Y1.alloc (.cells #[.bool (neg (-1)), .string (mag (-1))] 27)
  replace Y2 := Y2.alloc (.cells #[.bool (neg (-1)), .string (mag (-1))] 27)
  replace Y3 := Y3.alloc (.cells #[.bool (neg (-1)), .string (mag (-1))] 27)
  replace Y4 := Y4.alloc (.cells #[.bool (neg (-1)), .string (mag (-1))] 27)
  replace Y5 := Y5.alloc (.cells #[.bool (neg (-1)), .string (mag (-1))] 27)
  replace Y6 := Y6.alloc (.cells #[.bool (neg (-1)), .string (mag (-1))] 27)
  replace hB := nxtA hB (.cells #[.bool (neg (-1)), .string (mag (-1))] 27)
  have Y7 := Z
  clear Z
  obtain ⟨p1, p2, p3, p4⟩ := Y1.two
  obtain ⟨q1, q2, q3, q4⟩ := Y2.two
  obtain ⟨r1, r2, r3, r4⟩ := Y3.two
  obtain ⟨s1, s2, s3, s4⟩ := Y4.two
  obtain ⟨u1, u2, u3, u4⟩ := Y5.two
  obtain ⟨v1, v2, v3, v4⟩ := Y6.two
  obtain ⟨x1, x2, x3, x4⟩ := Y7.two
  go_wp2_with fail
  generalize w9.alloc (.cells #[.bool (neg (-1)), .string (mag (-1))] 27) = w10 at *
  generalize w9.heap.size = g7 at *
  refine (cS2.out _).mono ?_
  rintro e w11 ⟨rfl, hb⟩
  replace Y1 := Y1.later hb
  replace Y2 := Y2.later hb
  replace Y3 := Y3.later hb
  replace Y4 := Y4.later hb
  replace Y5 := Y5.later hb
  replace Y6 := Y6.later hb
  replace Y7 := Y7.later hb
  replace hB := nxt hB hb
  clear hb
  clear p1 p2 p3 p4 q1 q2 q3 q4 r1 r2 r3 r4 s1 s2 s3 s4 u1 u2 u3 u4 v1 v2 v3 v4 x1 x2 x3 x4
  obtain ⟨p1, p2, p3, p4⟩ := Y1.two
  obtain ⟨q1, q2, q3, q4⟩ := Y2.two
  obtain ⟨r1, r2, r3, r4⟩ := Y3.two
  obtain ⟨s1, s2, s3, s4⟩ := Y4.two
  obtain ⟨u1, u2, u3, u4⟩ := Y5.two
  obtain ⟨v1, v2, v3, v4⟩ := Y6.two
  obtain ⟨x1, x2, x3, x4⟩ := Y7.two
  go_wp2_with fail
  refine (cP2.out _).mono ?_
  rintro e w14 ⟨rfl, hb⟩
  replace Y1 := Y1.later hb
  replace Y2 := Y2.later hb
  replace Y3 := Y3.later hb
  replace Y4 := Y4.later hb
  replace Y5 := Y5.later hb
  replace Y6 := Y6.later hb
  replace Y7 := Y7.later hb
  replace hB := nxt hB hb
  clear hb
  clear p1 p2 p3 p4 q1 q2 q3 q4 r1 r2 r3 r4 s1 s2 s3 s4 u1 u2 u3 u4 v1 v2 v3 v4 x1 x2 x3 x4
  obtain ⟨p1, p2, p3, p4⟩ := Y1.two
  obtain ⟨q1, q2, q3, q4⟩ := Y2.two
  obtain ⟨r1, r2, r3, r4⟩ := Y3.two
  obtain ⟨s1, s2, s3, s4⟩ := Y4.two
  obtain ⟨u1, u2, u3, u4⟩ := Y5.two
  obtain ⟨v1, v2, v3, v4⟩ := Y6.two
  obtain ⟨x1, x2, x3, x4⟩ := Y7.two
  replace Y1 := Y1.far2 (g' := g5) (i := 0) (j := 1) (by omega) (.bool (neg (ival true q + -1))) (.string (mag (ival true q + -1)))
  replace Y2 := Y2.far2 (g' := g5) (i := 0) (j := 1) (by omega) (.bool (neg (ival true q + -1))) (.string (mag (ival true q + -1)))
  replace Y3 := Y3.far2 (g' := g5) (i := 0) (j := 1) (by omega) (.bool (neg (ival true q + -1))) (.string (mag (ival true q + -1)))
  replace Y4 := Y4.far2 (g' := g5) (i := 0) (j := 1) (by omega) (.bool (neg (ival true q + -1))) (.string (mag (ival true q + -1)))
  replace Y5 := Y5.set2 (.bool (neg (ival true q + -1))) (.string (mag (ival true q + -1)))
  replace Y6 := Y6.far2 (g' := g5) (i := 0) (j := 1) (by omega) (.bool (neg (ival true q + -1))) (.string (mag (ival true q + -1)))
  replace Y7 := Y7.far2 (g' := g5) (i := 0) (j := 1) (by omega) (.bool (neg (ival true q + -1))) (.string (mag (ival true q + -1)))
  replace hB := st2 (g := g5) hB (by omega) (.bool (neg (ival true q + -1))) (.string (mag (ival true q + -1)))
  go_wp2_with fail
  generalize (w14.setCell ⟨g5, 0, none⟩ (.bool (neg (ival true q + -1)))).setCell ⟨g5, 1, none⟩ (.string (mag (ival true q + -1))) = w15 at *
  clear p1 p2 p3 p4 q1 q2 q3 q4 r1 r2 r3 r4 s1 s2 s3 s4 u1 u2 u3 u4 v1 v2 v3 v4 x1 x2 x3 x4
  obtain ⟨p1, p2, p3, p4⟩ := Y1.two
  obtain ⟨q1, q2, q3, q4⟩ := Y2.two
  obtain ⟨r1, r2, r3, r4⟩ := Y3.two
  obtain ⟨s1, s2, s3, s4⟩ := Y4.two
  obtain ⟨u1, u2, u3, u4⟩ := Y5.two
  obtain ⟨v1, v2, v3, v4⟩ := Y6.two
  obtain ⟨x1, x2, x3, x4⟩ := Y7.two
  go_region
  all_goals
    go_wp2
    exact bodyPost_ret (v := .tuple #[.agg #[.bool (neg (ival true q + -1)), .string (mag (ival true q + -1))], .agg #[.bool (neg (ival true r + (sval t : Int))), .string (mag (ival true r + (sval t : Int)))], .bool true]) (by simp [results, Tryz.results68, go_sem, ((Y3.set2 (.bool (neg (ival true q + -1))) (.string (mag (ival true q + -1)))).far2 (g' := w.heap.size + 3) (i := 0) (j := 1) (by simp) (.bool (neg (ival true r + (sval t : Int)))) (.string (mag (ival true r + (sval t : Int))))).cel, ((Y4.far2 (g' := w.heap.size + 2) (i := 0) (j := 1) (by simp) (.bool (neg (ival true q + -1))) (.string (mag (ival true q + -1)))).set2 (.bool (neg (ival true r + (sval t : Int)))) (.string (mag (ival true r + (sval t : Int))))).cel]) rfl ⟨rfl, (st2 (st2 hB (Nat.le_add_right _ 2) _ _) (Nat.le_add_right _ 3) _ _).drew⟩

theorem rWDiv_any (s t : ByteArray) (b b' : Bool) (w : World) (hs : s.size ≤ 16777216) (ht : t.size ≤ 16777216) :
    Calls Tryz.prog 68 #[.agg #[.bool b, .string s], .agg #[.bool b', .string t]] w fun e w' => e = .returned (if sval t = 0 then .tuple #[.agg #[.bool false, .string ⟨#[]⟩], .agg #[.bool false, .string ⟨#[]⟩], .bool false] else .tuple #[.agg #[.bool (neg (ival b (sval s) / ival b' (sval t))), .string (mag (ival b (sval s) / ival b' (sval t)))], .agg #[.bool (neg (ival b (sval s) % ival b' (sval t))), .string (mag (ival b (sval s) % ival b' (sval t)))], .bool true]) ∧ Below w.heap.size w w' := by
  by_cases h0 : sval t = 0
  · rw [if_pos h0]; exact rWDiv_zero s t b b' w hs ht h0
  · rw [if_neg h0]
    have hv : 0 < sval t := by omega
    obtain ⟨e1, e2⟩ := div_signs b b' (sval s) (sval t) hv
    have hlt := Nat.mod_lt (sval s) hv
    rw [e1, e2]
    clear e1 e2
    by_cases hc : b = true ∧ sval s % sval t ≠ 0
    · rw [if_pos hc, if_pos hc]
      obtain ⟨rfl, hr⟩ := hc
      have hsg : sgn (ival true (sval s % sval t)) < 0 := sgn_lt.2 (by unfold ival; simp; omega)
      have e3 : ((sval t - sval s % sval t : Nat) : Int) = ival true (sval s % sval t) + (sval t : Int) := by unfold ival; simp; omega
      rw [e3]
      cases b'
      · have e5 : ival (true != false) (sval s / sval t + 1) = ival true (sval s / sval t) + -1 := by unfold ival; simp; omega
        rw [e5]
        exact rWDiv_fixf s t _ _ w hs ht hv rfl rfl hsg
      · have e5 : ival (true != true) (sval s / sval t + 1) = ival false (sval s / sval t) + 1 := by unfold ival; simp
        rw [e5]
        exact rWDiv_fixt s t _ _ w hs ht hv rfl rfl hsg
    · rw [if_neg hc, if_neg hc]
      have hsg : ¬ sgn (ival b (sval s % sval t)) < 0 := fun h => by
        have h2 := sgn_lt.1 h
        cases b
        · unfold ival at h2; simp at h2; omega
        · exact hc ⟨rfl, fun e => by rw [e, ival_zero] at h2; omega⟩
      have e3 : ((sval s % sval t : Nat) : Int) = ival b (sval s % sval t) := by
        cases b
        · rfl
        · have : sval s % sval t = 0 := Classical.byContradiction fun h => hc ⟨rfl, h⟩
          rw [this]; rfl
      rw [e3, show (b != b') = (!(b == b')) from rfl]
      exact rWDiv_nofix s t _ _ b b' w hs ht hv rfl rfl hsg

end Go.Proofs.YtibbhpgpleeglaaGreatDoor

