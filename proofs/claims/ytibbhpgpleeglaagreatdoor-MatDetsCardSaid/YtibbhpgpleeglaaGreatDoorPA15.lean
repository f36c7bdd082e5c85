/- The walks and plain laws beneath the statements. -/
import Derived.Test.YtibbhpgpleeglaaGreatDoorPA8
import Derived.Test.YtibbhpgpleeglaaGreatDoorPA13
import Derived.Test.YtibbhpgpleeglaaGreatDoorPA1
import Derived.Deep.RegionHeld3
import Derived.Deep.DeepCutAuto
namespace Go.Proofs.YtibbhpgpleeglaaGreatDoor
open Go.RowKit

set_option maxRecDepth 100000 in
set_option maxHeartbeats 400000 in
theorem wMade_any (s : ByteArray) (b : Bool) (w : World) :
    Calls Tryz.prog 63 #[.agg #[.string s, .bool b]] w fun e w' => e = .returned (.agg #[.bool (neg (ival b (sval s))), .string (mag (ival b (sval s)))]) ∧ Below w.heap.size w w' := by
  have hn := ival_neg b (sval s)
  have hm := mag_ival b (sval s)
  have hT := Lib.hid (fun W => nTrim_any s W)
  generalize ival b (sval s) = z at *
  generalize sval s = v at *
  have hemp := nstr_empty (v := v)
  generalize nstr v = t at *
  by_cases h0 : v = 0
  · subst h0
    have he : t.toList = [] := hemp.2 rfl
    cases b
    all_goals
      have HN := Lib.hid hn
      have HM := Lib.hid hm
      clear hn hm hemp
      go_enter Tryz.func63, Tryz.ntmps63
      go_wp2_with (go_at_call 85; refine (hT.out _).mono ?_; rintro e wn ⟨rfl, rfl⟩)
      exact bodyPost_ret (v := .agg #[.bool false, .string t]) (by simp [results, Tryz.results63, go_sem]) rfl ⟨by rw [HN.out, HM.out]; rfl, b2 _ _ _⟩
  · have he : t.toList.isEmpty = false := by
      rw [List.isEmpty_eq_false_iff]; exact fun h => h0 (hemp.1 h)
    have hv : (v == 0) = false := by simpa using h0
    rw [hv] at hn
    cases b
    · have HN := Lib.hid hn
      have HM := Lib.hid hm
      clear hn hm hemp hv h0
      go_enter Tryz.func63, Tryz.ntmps63
      go_wp2_with (go_at_call 85; refine (hT.out _).mono ?_; rintro e wn ⟨rfl, rfl⟩)
      exact bodyPost_ret (v := .agg #[.bool false, .string t]) (by simp [results, Tryz.results63, go_sem]) rfl ⟨by rw [HN.out, HM.out]; rfl, b2 _ _ _⟩
    · have HN := Lib.hid hn
      have HM := Lib.hid hm
      clear hn hm hemp hv h0
      go_enter Tryz.func63, Tryz.ntmps63
      go_wp2_with (go_at_call 85; refine (hT.out _).mono ?_; rintro e wn ⟨rfl, rfl⟩)
      exact bodyPost_ret (v := .agg #[.bool true, .string t]) (by simp [results, Tryz.results63, go_sem]) rfl ⟨by rw [HN.out, HM.out]; rfl, b2 _ _ _⟩

set_option maxRecDepth 100000 in
set_option maxHeartbeats 400000 in
theorem wof_any (s : ByteArray) (b : Bool) (w : World) :
    Calls Tryz.prog 65 #[.agg #[.bool b, .string s]] w fun e w' => e = .returned (.agg #[.string s, .bool b]) ∧ Below w.heap.size w w' := by
  go_enter Tryz.func65, Tryz.ntmps65
  go_wp2
  exact bodyPost_ret (v := .agg #[.string s, .bool b]) (by simp [results, Tryz.results65, go_sem]) rfl ⟨rfl, b2 _ _ _⟩

set_option maxRecDepth 100000 in
set_option maxHeartbeats 400000 in
theorem wcmp_any (s t : ByteArray) (w : World) (hs : s.size ≤ 4294967296) (ht : t.size ≤ 4294967296) :
    Calls Tryz.prog 110 #[.string s, .string t] w fun e w' => e = .returned (.int .i64 (cmpI (sval s) (sval t))) ∧ Below w.heap.size w w' := by
  go_enter Tryz.func110, Tryz.ntmps110
  go_wp2_with (go_at_call 124; refine (nCmp_any s t _ hs ht).mono ?_; rintro e wn ⟨rfl, hb⟩)
  go_ret
  exact ⟨rfl, hb⟩

set_option maxRecDepth 100000 in
set_option maxHeartbeats 400000 in
theorem wForm_any (s : ByteArray) (b : Bool) (w : World) :
    Calls Tryz.prog 73 #[.agg #[.bool b, .string s]] w fun e w' => e = .returned (.agg #[.bool (neg (ival b (sval s))), .string (mag (ival b (sval s)))]) ∧ Below w.heap.size w w' := by
  go_enter Tryz.func73, Tryz.ntmps73
  go_wp2_with fail
  refine (wof_any s b _).mono ?_
  rintro e w1 ⟨rfl, hb⟩
  have R1 := (Bx.at1 w _ _ _).later hb
  have hB1 := nxt (b2 w _ _) hb
  go_wp2_with fail
  refine (wMade_any s b _).mono ?_
  rintro e w2 ⟨rfl, hb2⟩
  have R2 := R1.later hb2
  have hB2 := nxt hB1 hb2
  obtain ⟨r0, r1, r2, r3⟩ := R2.two
  clear hb hb2
  go_wp2
  exact bodyPost_ret (v := .agg #[.bool (neg (ival b (sval s))), .string (mag (ival b (sval s)))]) (by simp [results, Tryz.results73, go_sem, (R2.set2 _ _).cel]) rfl ⟨rfl, st2 hB2 (Nat.le_succ _) _ _⟩
end Go.Proofs.YtibbhpgpleeglaaGreatDoor

/- The walks of package whole: plus, times. -/
namespace Go.Proofs.YtibbhpgpleeglaaGreatDoor
open Go.RowKit

theorem add2_any (a b : ByteArray) (w : World) (t : TypeId) (ha : a.size ≤ 1073741824) (hb : b.size ≤ 1073741824) :
    Calls Tryz.prog 109 #[.slice (some ⟨w.heap.size, 0, none⟩) 2 2] (w.alloc (.cells #[.string a, .string b] t)) fun e w' => e = .returned (.string (nstr (sval a + sval b))) ∧ Below w.heap.size w w' := by
  have h := (Cel.new w t #[.string a, .string b]).rd (o := 0) (n := 2) (by simp)
  have hr : Rd (w.alloc (.cells #[.string a, .string b] t)) (some ⟨w.heap.size, 0, none⟩) 2 (fun j => .string (if j = 0 then a else b)) := h.congr fun j hj => by
    have : j = 0 ∨ j = 1 := by omega
    rcases this with rfl | rfl <;> rfl
  have hs : sumTo (fun j => sval (if j = 0 then a else b)) 2 = sval a + sval b := by simp [sumTo]
  refine (nAdd_any _ 2 2 (fun j => if j = 0 then a else b) _ (by decide) (fun j => by split <;> assumption) hr).mono fun e w' ⟨he, hb⟩ => ⟨by rw [he, hs], nxt (b1 _ _) hb⟩

set_option maxRecDepth 100000 in
set_option maxHeartbeats 400000 in
theorem plus_same (s t : ByteArray) (b : Bool) (w : World) (hs : s.size ≤ 1073741824) (ht : t.size ≤ 1073741824) :
    Calls Tryz.prog 95 #[.agg #[.string s, .bool b], .agg #[.string t, .bool b]] w fun e w' => e = .returned (.agg #[.string (nstr (sval s + sval t)), .bool b]) ∧ Below w.heap.size w w' := by
  go_enter Tryz.func95, Tryz.ntmps95
  go_wp2_with fail
  have X1 := ((Bx.new w 83 #[.string s, .bool b]).alloc (.cells #[.string t, .bool b] 83)).alloc (.cells #[.string ⟨#[]⟩, .bool false] 83)
  have X2 := (Bx.at1 w (.cells #[.string s, .bool b] 83) 83 #[.string t, .bool b]).alloc (.cells #[.string ⟨#[]⟩, .bool false] 83)
  have X3 := Bx.at2 w (.cells #[.string s, .bool b] 83) (.cells #[.string t, .bool b] 83) 83 #[.string ⟨#[]⟩, .bool false]
  have hB := b3 w (.cells #[.string s, .bool b] 83) (.cells #[.string t, .bool b] 83) (.cells #[.string ⟨#[]⟩, .bool false] 83)
  generalize ((w.alloc (.cells #[.string s, .bool b] 83)).alloc (.cells #[.string t, .bool b] 83)).alloc (.cells #[.string ⟨#[]⟩, .bool false] 83) = w0 at *
  have hl0 := X1.lt
  have hl1 := X2.lt
  have hl2 := X3.lt
  obtain ⟨p1, p2, p3, p4⟩ := (X1).two
  obtain ⟨q1, q2, q3, q4⟩ := (X2).two
  obtain ⟨r1, r2, r3, r4⟩ := (X3).two
  go_region_held3 (fun w' => w'.cell? ⟨w.heap.size, 0, none⟩ = some (.string s) ∧ w'.cell? ⟨w.heap.size, 1, none⟩ = some (.bool b) ∧ w'.cell? ⟨w.heap.size + 1, 0, none⟩ = some (.string t) ∧ w'.cell? ⟨w.heap.size + 1, 1, none⟩ = some (.bool b)) ((repeat' apply And.intro) <;> (first | assumption | exact cell_later hb (by assumption) | exact cell_far2 (cell_later hb (by assumption)) (by omega) _ _ | exact cell_far2 (by assumption) (by omega) _ _ | go_keep))
    (first | (go_at_call 109; refine (add2_any s t w0.drew _ hs ht).mono ?_; rintro e wn ⟨rfl, hb'⟩; have hb := undrew hb'; clear hb'; obtain ⟨s1, s2, s3, s4⟩ := (X3.later hb).two))
  go_wp2
  exact bodyPost_ret (v := .agg #[.string (nstr (sval s + sval t)), .bool b]) (by simp [results, Tryz.results95, go_sem, ((X3.later hb).set2 _ _).cel]) rfl ⟨rfl, st2 (nxt hB hb) (Nat.le_add_right _ 2) _ _⟩

set_option maxRecDepth 100000 in
set_option maxHeartbeats 400000 in
theorem plus_ge (s t : ByteArray) (b b' : Bool) (w : World) (hs : s.size ≤ 1073741824) (ht : t.size ≤ 1073741824) (hbb : (b == b') = false) (hst : sval t ≤ sval s) :
    Calls Tryz.prog 95 #[.agg #[.string s, .bool b], .agg #[.string t, .bool b']] w fun e w' => e = .returned (.agg #[.string (nstr (sval s - sval t)), .bool b]) ∧ Below w.heap.size w w' := by
  have c1 := Lib.hid (fun W => wcmp_any s t W (by omega) (by omega))
  have c2 := Lib.hid (fun W => nSub_any s t W (by omega) (by omega))
  have h0 : ¬ cmpI (sval s) (sval t) < 0 := fun h => by have := cmpI_lt.1 h; omega
  rw [if_neg (by omega)] at c2
  clear hst
  go_enter Tryz.func95, Tryz.ntmps95
  go_wp2_with fail
  have X1 := ((Bx.new w 83 #[.string s, .bool b]).alloc (.cells #[.string t, .bool b'] 83)).alloc (.cells #[.string ⟨#[]⟩, .bool false] 83)
  have X2 := (Bx.at1 w (.cells #[.string s, .bool b] 83) 83 #[.string t, .bool b']).alloc (.cells #[.string ⟨#[]⟩, .bool false] 83)
  have X3 := Bx.at2 w (.cells #[.string s, .bool b] 83) (.cells #[.string t, .bool b'] 83) 83 #[.string ⟨#[]⟩, .bool false]
  have hB := b3 w (.cells #[.string s, .bool b] 83) (.cells #[.string t, .bool b'] 83) (.cells #[.string ⟨#[]⟩, .bool false] 83)
  generalize ((w.alloc (.cells #[.string s, .bool b] 83)).alloc (.cells #[.string t, .bool b'] 83)).alloc (.cells #[.string ⟨#[]⟩, .bool false] 83) = w0 at *
  have hl0 := X1.lt
  have hl1 := X2.lt
  have hl2 := X3.lt
  obtain ⟨p1, p2, p3, p4⟩ := (X1).two
  obtain ⟨q1, q2, q3, q4⟩ := (X2).two
  obtain ⟨r1, r2, r3, r4⟩ := (X3).two
  refine (c1.out _).mono ?_
  rintro e w1 ⟨rfl, hb⟩
  obtain ⟨p'1, p'2, p'3, p'4⟩ := (X1.later hb).two
  obtain ⟨q'1, q'2, q'3, q'4⟩ := (X2.later hb).two
  obtain ⟨r'1, r'2, r'3, r'4⟩ := (X3.later hb).two
  clear p1 p2 p3 p4 q1 q2 q3 q4 r1 r2 r3 r4
  go_wp2_with fail
  refine (c2.out _).mono ?_
  rintro e w2 ⟨rfl, hb2⟩
  have Y1 := (X1.later hb).later hb2
  have Y3 := (X3.later hb).later hb2
  obtain ⟨py1, py2, py3, py4⟩ := (Y1).two
  obtain ⟨qy1, qy2, qy3, qy4⟩ := (Y3).two
  clear p'1 p'2 p'3 p'4 q'1 q'2 q'3 q'4 r'1 r'2 r'3 r'4
  go_wp2
  exact bodyPost_ret (v := .agg #[.string (nstr (sval s - sval t)), .bool b]) (by simp [results, Tryz.results95, go_sem, (Y3.set2 _ _).cel]) rfl ⟨rfl, st2 (nxt (nxt hB hb) hb2) (Nat.le_add_right _ 2) _ _⟩

set_option maxRecDepth 100000 in
set_option maxHeartbeats 400000 in
theorem plus_lt (s t : ByteArray) (b b' : Bool) (w : World) (hs : s.size ≤ 1073741824) (ht : t.size ≤ 1073741824) (hbb : (b == b') = false) (hst : sval s < sval t) :
    Calls Tryz.prog 95 #[.agg #[.string s, .bool b], .agg #[.string t, .bool b']] w fun e w' => e = .returned (.agg #[.string (nstr (sval t - sval s)), .bool b']) ∧ Below w.heap.size w w' := by
  have c1 := Lib.hid (fun W => wcmp_any s t W (by omega) (by omega))
  have c2 := Lib.hid (fun W => nSub_any t s W (by omega) (by omega))
  have h0 : cmpI (sval s) (sval t) < 0 := cmpI_lt.2 hst
  rw [if_neg (by omega)] at c2
  clear hst
  go_enter Tryz.func95, Tryz.ntmps95
  go_wp2_with fail
  have X1 := ((Bx.new w 83 #[.string s, .bool b]).alloc (.cells #[.string t, .bool b'] 83)).alloc (.cells #[.string ⟨#[]⟩, .bool false] 83)
  have X2 := (Bx.at1 w (.cells #[.string s, .bool b] 83) 83 #[.string t, .bool b']).alloc (.cells #[.string ⟨#[]⟩, .bool false] 83)
  have X3 := Bx.at2 w (.cells #[.string s, .bool b] 83) (.cells #[.string t, .bool b'] 83) 83 #[.string ⟨#[]⟩, .bool false]
  have hB := b3 w (.cells #[.string s, .bool b] 83) (.cells #[.string t, .bool b'] 83) (.cells #[.string ⟨#[]⟩, .bool false] 83)
  generalize ((w.alloc (.cells #[.string s, .bool b] 83)).alloc (.cells #[.string t, .bool b'] 83)).alloc (.cells #[.string ⟨#[]⟩, .bool false] 83) = w0 at *
  have hl0 := X1.lt
  have hl1 := X2.lt
  have hl2 := X3.lt
  obtain ⟨p1, p2, p3, p4⟩ := (X1).two
  obtain ⟨q1, q2, q3, q4⟩ := (X2).two
  obtain ⟨r1, r2, r3, r4⟩ := (X3).two
  refine (c1.out _).mono ?_
  rintro e w1 ⟨rfl, hb⟩
  obtain ⟨p'1, p'2, p'3, p'4⟩ := (X1.later hb).two
  obtain ⟨q'1, q'2, q'3, q'4⟩ := (X2.later hb).two
  obtain ⟨r'1, r'2, r'3, r'4⟩ := (X3.later hb).two
  clear p1 p2 p3 p4 q1 q2 q3 q4 r1 r2 r3 r4
  go_wp2_with fail
  have Z1 := (X1.later hb).set2 (.string t) (.bool b')
  have Z1' := (Z1.far (p := ⟨w.heap.size + 1, 0, none⟩) (by simp) (.string s)).far (p := ⟨w.heap.size + 1, 1, none⟩) (by simp) (.bool b)
  have Z3 := ((((X3.later hb).far (p := ⟨w.heap.size, 0, none⟩) (by simp) (.string t)).far (p := ⟨w.heap.size, 1, none⟩) (by simp) (.bool b')).far (p := ⟨w.heap.size + 1, 0, none⟩) (by simp) (.string s)).far (p := ⟨w.heap.size + 1, 1, none⟩) (by simp) (.bool b)
  have hB1 := st2 (st2 (nxt hB hb) (Nat.le_refl _) (.string t) (.bool b')) (Nat.le_add_right w.heap.size 1) (.string s) (.bool b)
  refine (c2.out _).mono ?_
  rintro e w2 ⟨rfl, hb2⟩
  have Y1 := Z1'.later hb2
  have Y3 := Z3.later hb2
  obtain ⟨py1, py2, py3, py4⟩ := (Y1).two
  obtain ⟨qy1, qy2, qy3, qy4⟩ := (Y3).two
  clear p'1 p'2 p'3 p'4 q'1 q'2 q'3 q'4 r'1 r'2 r'3 r'4
  go_wp2
  exact bodyPost_ret (v := .agg #[.string (nstr (sval t - sval s)), .bool b']) (by simp [results, Tryz.results95, go_sem, (Y3.set2 _ _).cel]) rfl ⟨rfl, st2 (nxt (hB1) hb2) (Nat.le_add_right _ 2) _ _⟩

theorem ival_sum (b b' : Bool) (u v : Nat) : (b = b' → ival b u + ival b' v = ival b (u + v)) ∧ ((b == b') = false → v ≤ u → ival b u + ival b' v = ival b (u - v)) ∧ ((b == b') = false → u < v → ival b u + ival b' v = ival b' (v - u)) := by
  cases b <;> cases b' <;> simp [ival] <;> omega
theorem wPlus_any (s t : ByteArray) (b b' : Bool) (w : World) (hs : s.size ≤ 1073741824) (ht : t.size ≤ 1073741824) :
    Calls Tryz.prog 95 #[.agg #[.string s, .bool b], .agg #[.string t, .bool b']] w fun e w' => ∃ c, e = .returned (.agg #[.string (mag (ival b (sval s) + ival b' (sval t))), .bool c]) ∧ ival c (ival b (sval s) + ival b' (sval t)).natAbs = ival b (sval s) + ival b' (sval t) ∧ Below w.heap.size w w' := by
  obtain ⟨h1, h2, h3⟩ := ival_sum b b' (sval s) (sval t)
  cases hbb : (b == b')
  · rcases Nat.lt_or_ge (sval s) (sval t) with hst | hst
    · rw [h3 hbb hst]
      exact (plus_lt s t b b' w hs ht hbb hst).mono fun e w' ⟨he, hb⟩ => ⟨b', by rw [he, mag_ival], by rw [ival_natAbs], hb⟩
    · rw [h2 hbb hst]
      exact (plus_ge s t b b' w hs ht hbb hst).mono fun e w' ⟨he, hb⟩ => ⟨b, by rw [he, mag_ival], by rw [ival_natAbs], hb⟩
  · have e : b = b' := by simpa using hbb
    subst e
    rw [h1 rfl]
    exact (plus_same s t b w hs ht).mono fun e w' ⟨he, hb⟩ => ⟨b, by rw [he, mag_ival], by rw [ival_natAbs], hb⟩

set_option maxRecDepth 100000 in
set_option maxHeartbeats 400000 in
theorem times_any (s t : ByteArray) (b b' : Bool) (w : World) (hs : s.size ≤ 1073741824) (ht : t.size ≤ 1073741824) :
    Calls Tryz.prog 66 #[.agg #[.string s, .bool b], .agg #[.string t, .bool b']] w fun e w' => e = .returned (.agg #[.string (nstr (sval s * sval t)), .bool (b != b')]) ∧ Below w.heap.size w w' := by
  have c1 := Lib.hid (fun W => nMul_any s t W (by omega) (by omega))
  go_enter Tryz.func66, Tryz.ntmps66
  go_wp2_with fail
  have X1 := ((Bx.new w 83 #[.string s, .bool b]).alloc (.cells #[.string t, .bool b'] 83)).alloc (.cells #[.string ⟨#[]⟩, .bool false] 83)
  have X2 := (Bx.at1 w (.cells #[.string s, .bool b] 83) 83 #[.string t, .bool b']).alloc (.cells #[.string ⟨#[]⟩, .bool false] 83)
  have X3 := Bx.at2 w (.cells #[.string s, .bool b] 83) (.cells #[.string t, .bool b'] 83) 83 #[.string ⟨#[]⟩, .bool false]
  have hB := b3 w (.cells #[.string s, .bool b] 83) (.cells #[.string t, .bool b'] 83) (.cells #[.string ⟨#[]⟩, .bool false] 83)
  generalize ((w.alloc (.cells #[.string s, .bool b] 83)).alloc (.cells #[.string t, .bool b'] 83)).alloc (.cells #[.string ⟨#[]⟩, .bool false] 83) = w0 at *
  have hl0 := X1.lt
  have hl1 := X2.lt
  have hl2 := X3.lt
  obtain ⟨p1, p2, p3, p4⟩ := (X1).two
  obtain ⟨q1, q2, q3, q4⟩ := (X2).two
  obtain ⟨r1, r2, r3, r4⟩ := (X3).two
  go_region_held3 (fun w' => w'.cell? ⟨w.heap.size, 0, none⟩ = some (.string s) ∧ w'.cell? ⟨w.heap.size, 1, none⟩ = some (.bool b) ∧ w'.cell? ⟨w.heap.size + 1, 0, none⟩ = some (.string t) ∧ w'.cell? ⟨w.heap.size + 1, 1, none⟩ = some (.bool b')) ((repeat' apply And.intro) <;> (first | assumption | exact cell_later hb (by assumption) | exact cell_far2 (cell_later hb (by assumption)) (by omega) _ _ | exact cell_far2 (by assumption) (by omega) _ _ | go_keep))
    (first | (go_at_call 87; refine (c1.out w0.drew).mono ?_; rintro e wn ⟨rfl, hb'⟩; have hb := undrew hb'; clear hb'; obtain ⟨s1, s2, s3, s4⟩ := (X3.later hb).two))
  go_wp2
  exact bodyPost_ret (v := .agg #[.string (nstr (sval s * sval t)), .bool (b != b')]) (by simp [results, Tryz.results66, go_sem, ((X3.later hb).set2 _ _).cel]; cases b <;> cases b' <;> rfl) rfl ⟨rfl, st2 (nxt hB hb) (Nat.le_add_right _ 2) _ _⟩
theorem ival_pro (b b' : Bool) (u v : Nat) : ival b u * ival b' v = ival (b != b') (u * v) := by
  cases b <;> cases b' <;> simp only [ival, bne_self_eq_false, Bool.false_eq_true, if_false, if_true, Int.neg_mul, Int.mul_neg, Int.natCast_mul, Int.neg_neg, show (false != true) = true from rfl, show (true != false) = true from rfl]
theorem wTimes_any (s t : ByteArray) (b b' : Bool) (w : World) (hs : s.size ≤ 1073741824) (ht : t.size ≤ 1073741824) :
    Calls Tryz.prog 66 #[.agg #[.string s, .bool b], .agg #[.string t, .bool b']] w fun e w' => ∃ c, e = .returned (.agg #[.string (mag (ival b (sval s) * ival b' (sval t))), .bool c]) ∧ ival c (ival b (sval s) * ival b' (sval t)).natAbs = ival b (sval s) * ival b' (sval t) ∧ Below w.heap.size w w' := by
  rw [ival_pro]
  exact (times_any s t b b' w hs ht).mono fun e w' ⟨he, hb⟩ => ⟨b != b', by rw [he, mag_ival], by rw [ival_natAbs], hb⟩
end Go.Proofs.YtibbhpgpleeglaaGreatDoor

/- The walks of package whole: Neg, Of, Sign. -/
namespace Go.Proofs.YtibbhpgpleeglaaGreatDoor
open Go.RowKit

set_option maxRecDepth 100000 in
set_option maxHeartbeats 400000 in
theorem wNeg_any (s : ByteArray) (b : Bool) (w : World) :
    Calls Tryz.prog 38 #[.agg #[.bool b, .string s]] w fun e w' => e = .returned (.agg #[.bool (neg (-ival b (sval s))), .string (mag (-ival b (sval s)))]) ∧ Below w.heap.size w w' := by
  rw [← ival_not]
  go_enter Tryz.func38, Tryz.ntmps38
  go_wp2_with fail
  have X1 := (Bx.new w 27 #[.bool b, .string s]).alloc (.cells #[.bool false, .string ⟨#[]⟩] 27)
  have X2 := Bx.at1 w (.cells #[.bool b, .string s] 27) 27 #[.bool false, .string ⟨#[]⟩]
  have hB := b2 w (.cells #[.bool b, .string s] 27) (.cells #[.bool false, .string ⟨#[]⟩] 27)
  generalize (w.alloc (.cells #[.bool b, .string s] 27)).alloc (.cells #[.bool false, .string ⟨#[]⟩] 27) = w0 at *
  have hl0 := X1.lt
  have hl1 := X2.lt
  refine (wMade_any s (!b) _).mono ?_
  rintro e w1 ⟨rfl, hb⟩
  obtain ⟨r1, r2, r3, r4⟩ := (X2.later hb).two
  go_wp2
  exact bodyPost_ret (v := .agg #[.bool (neg (ival (!b) (sval s))), .string (mag (ival (!b) (sval s)))]) (by simp [results, Tryz.results38, go_sem, ((X2.later hb).set2 _ _).cel]) rfl ⟨rfl, st2 (nxt hB hb) (Nat.le_add_right _ 1) _ _⟩

set_option maxRecDepth 100000 in
set_option maxHeartbeats 400000 in
theorem wOf_neg (v : Nat) (w : World) (h0 : 0 < v) (hv : v ≤ 9223372036854775808) :
    Calls Tryz.prog 49 #[.int .i64 (-(v : Int))] w fun e w' => e = .returned (.agg #[.bool (neg (-(v : Int))), .string (mag (-(v : Int)))]) ∧ Below w.heap.size w w' := by
  have hi : ival true (sval (nstr v)) = -(v : Int) := by rw [sval_nstr]; rfl
  have cm := Lib.hid (fun W => wMade_any (nstr v) true W)
  rw [hi] at cm
  have hcv : IntKind.u64.wrap (-(v : Int)) = 18446744073709551616 - (v : Int) := by rw [IntKind.wrap_u64]; omega
  have hcn : IntKind.u64.wrap (-(18446744073709551616 - (v : Int))) = (v : Int) := by rw [IntKind.wrap_u64]; omega
  have co := Lib.hid (fun W => nOf_any v W (by rw [LB_eq]; omega))
  clear hi
  go_enter Tryz.func49, Tryz.ntmps49
  have X := Bx.new w 27 #[.bool false, .string ⟨#[]⟩]
  go_wp2_with fail
  refine (co.out _).mono ?_
  rintro e w1 ⟨rfl, hb⟩
  have X1 := X.later hb
  have hB := nxt (b1 w _) hb
  clear hb X
  go_wp2_with fail
  refine (cm.out _).mono ?_
  rintro e w2 ⟨rfl, hb2⟩
  have X2 := X1.later hb2
  have hB2 := nxt hB hb2
  clear hb2 X1
  obtain ⟨r1, r2, r3, r4⟩ := X2.two
  go_wp2
  exact bodyPost_ret (v := .agg #[.bool (neg (-(v : Int))), .string (mag (-(v : Int)))]) (by simp [results, Tryz.results49, go_sem, (X2.set2 _ _).cel]) rfl ⟨rfl, st2 hB2 (Nat.le_refl _) _ _⟩

set_option maxRecDepth 100000 in
set_option maxHeartbeats 400000 in
theorem wOf_pos (v : Nat) (w : World) (hv : v ≤ 9223372036854775807) :
    Calls Tryz.prog 49 #[.int .i64 (v : Int)] w fun e w' => e = .returned (.agg #[.bool (neg ((v : Int))), .string (mag ((v : Int)))]) ∧ Below w.heap.size w w' := by
  have hi : ival false (sval (nstr v)) = (v : Int) := by rw [sval_nstr]; rfl
  have cm := Lib.hid (fun W => wMade_any (nstr v) false W)
  rw [hi] at cm
  have hcv : IntKind.u64.wrap (v : Int) = (v : Int) := by rw [IntKind.wrap_u64]; omega
  have co := Lib.hid (fun W => nOf_any v W (by rw [LB_eq]; omega))
  clear hi
  go_enter Tryz.func49, Tryz.ntmps49
  have X := Bx.new w 27 #[.bool false, .string ⟨#[]⟩]
  go_wp2_with fail
  refine (co.out _).mono ?_
  rintro e w1 ⟨rfl, hb⟩
  have X1 := X.later hb
  have hB := nxt (b1 w _) hb
  clear hb X
  go_wp2_with fail
  refine (cm.out _).mono ?_
  rintro e w2 ⟨rfl, hb2⟩
  have X2 := X1.later hb2
  have hB2 := nxt hB hb2
  clear hb2 X1
  obtain ⟨r1, r2, r3, r4⟩ := X2.two
  go_wp2
  exact bodyPost_ret (v := .agg #[.bool (neg ((v : Int))), .string (mag ((v : Int)))]) (by simp [results, Tryz.results49, go_sem, (X2.set2 _ _).cel]) rfl ⟨rfl, st2 hB2 (Nat.le_refl _) _ _⟩
theorem wOf_any (n : Int) (w : World) (h1 : -9223372036854775808 ≤ n) (h2 : n ≤ 9223372036854775807) :
    Calls Tryz.prog 49 #[.int .i64 n] w fun e w' => e = .returned (.agg #[.bool (neg (n)), .string (mag (n))]) ∧ Below w.heap.size w w' := by
  by_cases h : n < 0
  · obtain ⟨v, rfl⟩ : ∃ v : Nat, n = -(v : Int) := ⟨n.natAbs, by omega⟩
    exact wOf_neg v w (by omega) (by omega)
  · obtain ⟨v, rfl⟩ : ∃ v : Nat, n = (v : Int) := ⟨n.natAbs, by omega⟩
    exact wOf_pos v w (by omega)
theorem mag_empty {z : Int} : (mag z).toList = [] ↔ z = 0 := by
  unfold mag; rw [nstr_empty]; omega
theorem mag_full {z : Int} (h : z ≠ 0) : (mag z).toList.isEmpty = false := by
  rw [List.isEmpty_eq_false_iff]; exact fun e => h (mag_empty.1 e)

set_option maxRecDepth 100000 in
set_option maxHeartbeats 400000 in
theorem wSign_any (s : ByteArray) (b : Bool) (w : World) :
    Calls Tryz.prog 47 #[.agg #[.bool b, .string s]] w fun e w' => e = .returned (.int .i64 (sgn (ival b (sval s)))) ∧ Below w.heap.size w w' := by
  have cf := Lib.hid (fun W => wForm_any s b W)
  generalize ival b (sval s) = z at *
  rcases Int.lt_trichotomy z 0 with h | h | h
  · have hn : neg z = true := decide_eq_true h
    have HS := Lib.hid (show sgn z = -1 by unfold sgn; rw [if_pos h])
    clear h
    go_enter Tryz.func47, Tryz.ntmps47
    go_wp2_with fail
    refine (cf.out _).mono ?_
    rintro e w1 ⟨rfl, hb⟩
    go_wp2
    go_ret
    exact ⟨by rw [HS.out]; rfl, nxtA (nxt (b1 w _) hb) _⟩
  · have hn : neg z = false := decide_eq_false (by omega)
    have hm : (mag z).toList = [] := mag_empty.2 h
    have HS := Lib.hid (show sgn z = 0 from sgn_eq.2 h)
    clear h
    go_enter Tryz.func47, Tryz.ntmps47
    go_wp2_with fail
    refine (cf.out _).mono ?_
    rintro e w1 ⟨rfl, hb⟩
    go_wp2
    go_ret
    exact ⟨by rw [HS.out]; rfl, nxtA (nxt (b1 w _) hb) _⟩
  · have hn : neg z = false := decide_eq_false (by omega)
    have hm : (mag z).toList.isEmpty = false := mag_full (by omega)
    have HS := Lib.hid (show sgn z = 1 by unfold sgn; rw [if_neg (by omega), if_neg (by omega)])
    clear h
    go_enter Tryz.func47, Tryz.ntmps47
    go_wp2_with fail
    refine (cf.out _).mono ?_
    rintro e w1 ⟨rfl, hb⟩
    go_wp2
    go_ret
    exact ⟨by rw [HS.out]; rfl, nxtA (nxt (b1 w _) hb) _⟩

end Go.Proofs.YtibbhpgpleeglaaGreatDoor

/- The walks of package whole: Add, Mul, Pow. -/
namespace Go.Proofs.YtibbhpgpleeglaaGreatDoor
open Go.RowKit

/-- A []api.Int's first n elements. -/
def RdI (w : World) (A : Option Addr) (n : Nat) (bs : Nat → Bool) (ss : Nat → ByteArray) : Prop :=
  0 < n → ∃ b off, A = some ⟨b, off, none⟩ ∧ ∀ j, j < n → w.cell? ⟨b, off + j * 2, none⟩ = some (.bool (bs j)) ∧ w.cell? ⟨b, off + j * 2 + 1, none⟩ = some (.string (ss j))
theorem RdI.below {w w' : World} {A : Option Addr} {n : Nat} {bs : Nat → Bool} {ss : Nat → ByteArray} (h : RdI w A n bs ss) (hb : Below w.heap.size w w') : RdI w' A n bs ss := fun h0 => by
  obtain ⟨b, off, e, hc⟩ := h h0
  exact ⟨b, off, e, fun j hj => ⟨cell_later hb (hc j hj).1, cell_later hb (hc j hj).2⟩⟩

set_option maxRecDepth 100000 in
set_option maxHeartbeats 400000 in
theorem wAdd_any (A : Option Addr) (n c : Nat) (bs : Nat → Bool) (ss : Nat → ByteArray) (w : World) (hn : n ≤ 268435456) (hs : ∀ j, (ss j).size ≤ 536870912) (hr : RdI w A n bs ss) :
    Calls Tryz.prog 77 #[.slice A n c] w fun e w' => e = .returned (.agg #[.bool (neg (sumI (fun j => ival (bs j) (sval (ss j))) n)), .string (mag (sumI (fun j => ival (bs j) (sval (ss j))) n))]) ∧ Below w.heap.size w w' := by
  have HS := Lib.hid hs
  have hb1 : ∀ k, bsz (sumI (fun j => ival (bs j) (sval (ss j))) k) ≤ 536870912 + k := fun k => bsz_sumI (fun j => Nat.le_trans (bsz_ival _ _) (hs j)) k
  have HB := Lib.hid hb1
  clear hs hb1
  go_enter Tryz.func77, Tryz.ntmps77
  have X1 := (Bx.new w 27 #[.bool false, .string ⟨#[]⟩]).alloc (.cells #[.string ⟨#[]⟩, .bool false] 83)
  have X2 := Bx.at1 w (.cells #[.bool false, .string ⟨#[]⟩] 27) 83 #[.string ⟨#[]⟩, .bool false]
  have hB := b2 w (.cells #[.bool false, .string ⟨#[]⟩] 27) (.cells #[.string ⟨#[]⟩, .bool false] 83)
  go_wp2_with fail
  generalize (w.alloc (.cells #[.bool false, .string ⟨#[]⟩] 27)).alloc (.cells #[.string ⟨#[]⟩, .bool false] 83) = w0 at *
  go_loopw [8] (fun i wr => ∃ k : Nat, ∃ d : Bool, k ≤ n ∧ i = .int .i64 (k : Nat) ∧ Hid (ival d (sumI (fun j => ival (bs j) (sval (ss j))) k).natAbs = sumI (fun j => ival (bs j) (sval (ss j))) k) ∧ Bx wr w.heap.size 27 #[.bool false, .string ⟨#[]⟩] ∧ Bx wr (w.heap.size + 1) 83 #[.string (mag (sumI (fun j => ival (bs j) (sval (ss j))) k)), .bool d] ∧ Below w.heap.size w wr) (fun i _ => n - (intOf i).toNat)
  case atStart => exact ⟨0, false, Nat.zero_le _, rfl, rfl, X1, X2, hB⟩
  case round =>
    obtain ⟨k, d, hk, rfl, hd, Y1, Y2, hB2⟩ := hrel
    obtain ⟨p1, p2, p3, p4⟩ := Y1.two
    obtain ⟨q1, q2, q3, q4⟩ := Y2.two
    by_cases hlt : k < n
    · obtain ⟨b, off, rfl, hc⟩ := hr (by omega)
      have g1 := cell_later hB2 (hc k hlt).1
      have g2 := cell_later hB2 (hc k hlt).2
      clear hc hr
      have hl2 : w.heap.size + 1 < wr.heap.size := Y2.lt
      have Z3 := Bx.new wr 27 #[.bool (bs k), .string (ss k)]
      have Z1 := Y1.alloc (.cells #[.bool (bs k), .string (ss k)] 27)
      have Z2 := Y2.alloc (.cells #[.bool (bs k), .string (ss k)] 27)
      have hB3 := nxtA hB2 (.cells #[.bool (bs k), .string (ss k)] 27)
      have hsz := HS.out k
      have hbz := HB.out k
      have HD := Lib.hid (show sumI (fun j => ival (bs j) (sval (ss j))) (k + 1) = ival d (sval (mag (sumI (fun j => ival (bs j) (sval (ss j))) k))) + ival (bs k) (sval (ss k)) by
        rw [sval_mag, hd.out]; rfl)
      have hms : (mag (sumI (fun j => ival (bs j) (sval (ss j))) k)).size ≤ 1073741824 := by rw [mag_size]; omega
      have hsz2 : (ss k).size ≤ 1073741824 := by omega
      have cp := Lib.hid (fun W => wPlus_any (mag (sumI (fun j => ival (bs j) (sval (ss j))) k)) (ss k) d (bs k) W hms hsz2)
      rw [← HD.out] at cp
      clear hsz hbz hms hsz2
      obtain ⟨S1, hS1⟩ : ∃ S1, S1 = sumI (fun j => ival (bs j) (sval (ss j))) (k + 1) := ⟨_, rfl⟩
      rw [← hS1] at cp
      have H1 := Lib.hid hS1
      clear hS1
      go_wp2_with fail
      generalize wr.alloc (.cells #[.bool (bs k), .string (ss k)] 27) = w5 at *
      obtain ⟨z1, z2, _, _⟩ := Z3.two
      clear p1 p2 p3 p4 q1 q2 q3 q4
      obtain ⟨q1, q2, q3, q4⟩ := Z2.two
      have hl5 : wr.heap.size < w5.heap.size := Z3.lt
      go_region_with
        (first
          | (go_at_call 65; refine (wof_any (ss k) (bs k) w5.drew).mono ?_; rintro e wn ⟨rfl, hb'⟩; have hb := undrew hb'; clear hb'; obtain ⟨s1, s2, s3, s4⟩ := (Z2.later hb).two)
          | (go_at_call 95; refine (cp.out wn).mono ?_; rintro e wm ⟨d', rfl, hd', hb2⟩; have hd2 := Lib.hid hd'; clear hd'; obtain ⟨t1, t2, t3, t4⟩ := ((Z2.later hb).later hb2).two))
      all_goals
        go_wp2
        exact ⟨⟨k + 1, d', hlt, by go_num, by rw [← H1.out]; exact hd2.out, (((Z1.later hb).later hb2).far (p := ⟨w.heap.size + 1, 0, none⟩) (by simp) _).far (p := ⟨w.heap.size + 1, 1, none⟩) (by simp) _, by rw [← H1.out]; exact ((Z2.later hb).later hb2).set2 _ _, st2 (nxt (nxt hB3 hb) hb2) (Nat.le_add_right _ 1) _ _⟩, by simp [intOf]; omega⟩
    · obtain rfl : k = n := by omega
      have cm := Lib.hid (fun W => wMade_any (mag (sumI (fun j => ival (bs j) (sval (ss j))) k)) d W)
      rw [sval_mag, hd.out] at cm
      go_wp2_with fail
      refine (cm.out _).mono ?_
      rintro e w6 ⟨rfl, hb6⟩
      obtain ⟨s1, s2, s3, s4⟩ := (Y1.later hb6).two
      go_wp2
      exact bodyPost_ret (v := .agg #[.bool (neg (sumI (fun j => ival (bs j) (sval (ss j))) k)), .string (mag (sumI (fun j => ival (bs j) (sval (ss j))) k))]) (by simp [results, Tryz.results77, go_sem, ((Y1.later hb6).set2 _ _).cel]) rfl ⟨rfl, st2 (nxt hB2 hb6) (Nat.le_refl _) _ _⟩

end Go.Proofs.YtibbhpgpleeglaaGreatDoor

namespace Go.Proofs.YtibbhpgpleeglaaGreatDoor
open Go.RowKit

set_option maxRecDepth 100000 in
set_option maxHeartbeats 400000 in
theorem wMul_any (A : Option Addr) (n c : Nat) (bs : Nat → Bool) (ss : Nat → ByteArray) (S : Nat) (w : World) (hn : n ≤ 268435456) (hS : S ≤ 1073741824) (hs : ∀ j, (ss j).size ≤ S) (hSn : S * n ≤ 1073741823) (hr : RdI w A n bs ss) :
    Calls Tryz.prog 42 #[.slice A n c] w fun e w' => e = .returned (.agg #[.bool (neg (prodI (fun j => ival (bs j) (sval (ss j))) n)), .string (mag (prodI (fun j => ival (bs j) (sval (ss j))) n))]) ∧ Below w.heap.size w w' := by
  have HS := Lib.hid hs
  have hb1 : ∀ k, k ≤ n → bsz (prodI (fun j => ival (bs j) (sval (ss j))) k) ≤ 1073741824 := fun k hk => by
    have h1 := bsz_prodI (f := fun j => ival (bs j) (sval (ss j))) (S := S) (fun j => Nat.le_trans (bsz_ival _ _) (hs j)) k
    have h2 : S * k ≤ S * n := Nat.mul_le_mul_left _ hk
    omega
  have HB := Lib.hid hb1
  clear hs hb1 hSn
  have c1 := Lib.hid (fun W => wOf_any 1 W (by decide) (by decide))
  go_enter Tryz.func42, Tryz.ntmps42
  have X1 := Bx.new w 27 #[.bool false, .string ⟨#[]⟩]
  have hB := b1 w (.cells #[.bool false, .string ⟨#[]⟩] 27)
  go_wp2_with fail
  refine (c1.out _).mono ?_
  rintro e w1 ⟨rfl, hb⟩
  replace X1 := X1.later hb
  replace hB := nxt hB hb
  clear hb
  go_wp2_with fail
  refine (wof_any _ _ w1).mono ?_
  rintro e w2 ⟨rfl, hb⟩
  replace X1 := X1.later hb
  replace hB := nxt hB hb
  clear hb
  have hg : w.heap.size < w2.heap.size := X1.lt
  have X2 := Bx.new w2 83 #[.string (mag 1), .bool (neg 1)]
  replace X1 := X1.alloc (.cells #[.string (mag 1), .bool (neg 1)] 83)
  replace hB := nxtA hB (.cells #[.string (mag 1), .bool (neg 1)] 83)
  go_wp2_with fail
  generalize w2.alloc (.cells #[.string (mag 1), .bool (neg 1)] 83) = w0 at *
  generalize w2.heap.size = g at *
  go_loopw [10] (fun i wr => ∃ k : Nat, ∃ d : Bool, k ≤ n ∧ i = .int .i64 (k : Nat) ∧ Hid (ival d (prodI (fun j => ival (bs j) (sval (ss j))) k).natAbs = prodI (fun j => ival (bs j) (sval (ss j))) k) ∧ Bx wr w.heap.size 27 #[.bool false, .string ⟨#[]⟩] ∧ Bx wr g 83 #[.string (mag (prodI (fun j => ival (bs j) (sval (ss j))) k)), .bool d] ∧ Below w.heap.size w wr) (fun i _ => n - (intOf i).toNat)
  case atStart => exact ⟨0, neg 1, Nat.zero_le _, rfl, (by show ival (neg 1) (1 : Int).natAbs = 1; rfl), X1, X2, hB⟩
  case round =>
    obtain ⟨k, d, hk, rfl, hd, Y1, Y2, hB2⟩ := hrel
    obtain ⟨p1, p2, p3, p4⟩ := Y1.two
    obtain ⟨q1, q2, q3, q4⟩ := Y2.two
    by_cases hlt : k < n
    · obtain ⟨b, off, rfl, hc⟩ := hr (by omega)
      have hB3 : Below w.heap.size w wr := hB2
      have g1 := cell_later hB3 (hc k hlt).1
      have g2 := cell_later hB3 (hc k hlt).2
      clear hc hr
      have hl2 : g < wr.heap.size := Y2.lt
      have Z3 := Bx.new wr 27 #[.bool (bs k), .string (ss k)]
      have Z1 := Y1.alloc (.cells #[.bool (bs k), .string (ss k)] 27)
      have Z2 := Y2.alloc (.cells #[.bool (bs k), .string (ss k)] 27)
      have hB3 := nxtA hB2 (.cells #[.bool (bs k), .string (ss k)] 27)
      have hsz := HS.out k
      have hbz := HB.out k hk
      have HD := Lib.hid (show prodI (fun j => ival (bs j) (sval (ss j))) (k + 1) = ival d (sval (mag (prodI (fun j => ival (bs j) (sval (ss j))) k))) * ival (bs k) (sval (ss k)) by
        rw [sval_mag, hd.out]; rfl)
      have hms : (mag (prodI (fun j => ival (bs j) (sval (ss j))) k)).size ≤ 1073741824 := by rw [mag_size]; exact hbz
      have hsz2 : (ss k).size ≤ 1073741824 := by omega
      have cp := Lib.hid (fun W => wTimes_any (mag (prodI (fun j => ival (bs j) (sval (ss j))) k)) (ss k) d (bs k) W hms hsz2)
      rw [← HD.out] at cp
      clear hsz hbz hms hsz2
      obtain ⟨S1, hS1⟩ : ∃ S1, S1 = prodI (fun j => ival (bs j) (sval (ss j))) (k + 1) := ⟨_, rfl⟩
      rw [← hS1] at cp
      have H1 := Lib.hid hS1
      clear hS1
      go_wp2_with fail
      generalize wr.alloc (.cells #[.bool (bs k), .string (ss k)] 27) = w5 at *
      obtain ⟨z1, z2, _, _⟩ := Z3.two
      clear p1 p2 p3 p4 q1 q2 q3 q4
      obtain ⟨q1, q2, q3, q4⟩ := Z2.two
      have hl5 : wr.heap.size < w5.heap.size := Z3.lt
      go_region_with
        (first
          | (go_at_call 65; refine (wof_any (ss k) (bs k) w5.drew).mono ?_; rintro e wn ⟨rfl, hb'⟩; have hb := undrew hb'; clear hb'; obtain ⟨s1, s2, s3, s4⟩ := (Z2.later hb).two)
          | (go_at_call 66; refine (cp.out wn).mono ?_; rintro e wm ⟨d', rfl, hd', hb2⟩; have hd2 := Lib.hid hd'; clear hd'; obtain ⟨t1, t2, t3, t4⟩ := ((Z2.later hb).later hb2).two))
      all_goals
        go_wp2
        exact ⟨⟨k + 1, d', hlt, by go_num, by rw [← H1.out]; exact hd2.out, (((Z1.later hb).later hb2).far (p := ⟨g, 0, none⟩) (Nat.ne_of_lt hg) _).far (p := ⟨g, 1, none⟩) (Nat.ne_of_lt hg) _, by rw [← H1.out]; exact ((Z2.later hb).later hb2).set2 _ _, st2 (nxt (nxt hB3 hb) hb2) (Nat.le_of_lt hg) _ _⟩, by simp [intOf]; omega⟩
    · obtain rfl : k = n := by omega
      have cm := Lib.hid (fun W => wMade_any (mag (prodI (fun j => ival (bs j) (sval (ss j))) k)) d W)
      rw [sval_mag, hd.out] at cm
      go_wp2_with fail
      refine (cm.out _).mono ?_
      rintro e w6 ⟨rfl, hb6⟩
      obtain ⟨s1, s2, s3, s4⟩ := (Y1.later hb6).two
      go_wp2
      exact bodyPost_ret (v := .agg #[.bool (neg (prodI (fun j => ival (bs j) (sval (ss j))) k)), .string (mag (prodI (fun j => ival (bs j) (sval (ss j))) k))]) (by simp [results, Tryz.results42, go_sem, ((Y1.later hb6).set2 _ _).cel]) rfl ⟨rfl, st2 (nxt hB2 hb6) (Nat.le_refl _) _ _⟩

theorem rdI2 (w : World) (s t : ByteArray) (b b' : Bool) : RdI (w.alloc (.cells #[.bool b, .string s, .bool b', .string t] 27)) (some ⟨w.heap.size, 0, none⟩) 2 (fun j => if j = 0 then b else b') (fun j => if j = 0 then s else t) := fun _ =>
  ⟨w.heap.size, 0, rfl, fun j hj => by
    have h := Bx.new w 27 #[.bool b, .string s, .bool b', .string t]
    have : j = 0 ∨ j = 1 := by omega
    rcases this with rfl | rfl
    · exact ⟨h.cel 0, h.cel 1⟩
    · exact ⟨h.cel 2, h.cel 3⟩⟩
theorem wAdd2_any (s t : ByteArray) (b b' : Bool) (w : World) (hs : s.size ≤ 536870912) (ht : t.size ≤ 536870912) :
    Calls Tryz.prog 77 #[.slice (some ⟨w.heap.size, 0, none⟩) 2 2] (w.alloc (.cells #[.bool b, .string s, .bool b', .string t] 27)) fun e w' => e = .returned (.agg #[.bool (neg (ival b (sval s) + ival b' (sval t))), .string (mag (ival b (sval s) + ival b' (sval t)))]) ∧ Below w.heap.size w w' := by
  have h := wAdd_any _ 2 2 _ _ (w.alloc (.cells #[.bool b, .string s, .bool b', .string t] 27)) (by decide) (fun j => by split <;> assumption) (rdI2 w s t b b')
  have e : sumI (fun j => ival (if j = 0 then b else b') (sval (if j = 0 then s else t))) 2 = ival b (sval s) + ival b' (sval t) := by
    show (0 + ival b (sval s)) + ival b' (sval t) = _
    rw [Int.zero_add]
  rw [e] at h
  exact h.mono fun e w' ⟨he, hb⟩ => ⟨he, nxt (b1 _ _) hb⟩

set_option maxRecDepth 100000 in
set_option maxHeartbeats 400000 in
theorem wSub_any (s t : ByteArray) (b b' : Bool) (w : World) (hs : s.size ≤ 536870912) (ht : t.size ≤ 536870912) :
    Calls Tryz.prog 52 #[.agg #[.bool b, .string s], .agg #[.bool b', .string t]] w fun e w' => e = .returned (.agg #[.bool (neg (ival b (sval s) - ival b' (sval t))), .string (mag (ival b (sval s) - ival b' (sval t)))]) ∧ Below w.heap.size w w' := by
  have h2 : (mag (-ival b' (sval t))).size ≤ 536870912 := by
    rw [mag_size, bsz_neg]; exact Nat.le_trans (bsz_ival _ _) ht
  have cn := Lib.hid (fun W => wNeg_any t b' W)
  have ca := Lib.hid (fun W => wAdd2_any s (mag (-ival b' (sval t))) b (neg (-ival b' (sval t))) W hs h2)
  rw [ival_mk, ← Int.sub_eq_add_neg] at ca
  clear h2
  go_enter Tryz.func52, Tryz.ntmps52
  go_wp2_with fail
  have X1 := ((Bx.new w 27 #[.bool b, .string s]).alloc (.cells #[.bool b', .string t] 27)).alloc (.cells #[.bool false, .string ⟨#[]⟩] 27)
  have X2 := (Bx.at1 w (.cells #[.bool b, .string s] 27) 27 #[.bool b', .string t]).alloc (.cells #[.bool false, .string ⟨#[]⟩] 27)
  have X3 := Bx.at2 w (.cells #[.bool b, .string s] 27) (.cells #[.bool b', .string t] 27) 27 #[.bool false, .string ⟨#[]⟩]
  have hB := b3 w (.cells #[.bool b, .string s] 27) (.cells #[.bool b', .string t] 27) (.cells #[.bool false, .string ⟨#[]⟩] 27)
  generalize ((w.alloc (.cells #[.bool b, .string s] 27)).alloc (.cells #[.bool b', .string t] 27)).alloc (.cells #[.bool false, .string ⟨#[]⟩] 27) = w0 at *
  have hl0 := X1.lt
  have hl1 := X2.lt
  have hl2 := X3.lt
  obtain ⟨p1, p2, p3, p4⟩ := (X1).two
  obtain ⟨q1, q2, q3, q4⟩ := (X2).two
  obtain ⟨r1, r2, r3, r4⟩ := (X3).two
  go_region_held3 (fun w' => w'.cell? ⟨w.heap.size, 0, none⟩ = some (.bool b) ∧ w'.cell? ⟨w.heap.size, 1, none⟩ = some (.string s) ∧ w'.cell? ⟨w.heap.size + 1, 0, none⟩ = some (.bool b') ∧ w'.cell? ⟨w.heap.size + 1, 1, none⟩ = some (.string t)) (first | exact ⟨p1, p2, q1, q2⟩ | exact ⟨cell_later hb p1, cell_later hb p2, cell_later hb q1, cell_later hb q2⟩ | exact ⟨cell_later (b1 wn _) (cell_later hb p1), cell_later (b1 wn _) (cell_later hb p2), cell_later (b1 wn _) (cell_later hb q1), cell_later (b1 wn _) (cell_later hb q2)⟩ | exact ⟨cell_later hb2 (cell_later hb p1), cell_later hb2 (cell_later hb p2), cell_later hb2 (cell_later hb q1), cell_later hb2 (cell_later hb q2)⟩ | exact ⟨cell_far2 (cell_later hb2 (cell_later hb p1)) (by omega) _ _, cell_far2 (cell_later hb2 (cell_later hb p2)) (by omega) _ _, cell_far2 (cell_later hb2 (cell_later hb q1)) (by omega) _ _, cell_far2 (cell_later hb2 (cell_later hb q2)) (by omega) _ _⟩)
    (first
      | (go_at_call 38; refine (cn.out w0.drew).mono ?_; rintro e wn ⟨rfl, hb'⟩; have hb := undrew hb'; clear hb')
      | (go_at_call 77; refine (ca.out wn).mono ?_; rintro e wm ⟨rfl, hb2⟩; obtain ⟨t1, t2, t3, t4⟩ := ((X3.later hb).later hb2).two))
  go_wp2
  exact bodyPost_ret (v := .agg #[.bool (neg (ival b (sval s) - ival b' (sval t))), .string (mag (ival b (sval s) - ival b' (sval t)))]) (by simp [results, Tryz.results52, go_sem, (((X3.later hb).later hb2).set2 _ _).cel]) rfl ⟨rfl, st2 (nxt (nxt hB hb) hb2) (Nat.le_add_right _ 2) _ _⟩

end Go.Proofs.YtibbhpgpleeglaaGreatDoor

namespace Go.Proofs.YtibbhpgpleeglaaGreatDoor
open Go.RowKit

/-- Moved up, or down towards the lesser one. -/
def shiftI (z n : Int) : Int := if 0 ≤ n then z * 2 ^ n.toNat else z / 2 ^ (-n).toNat
theorem ival_shl (b : Bool) (v k : Nat) : ival b (v * 2 ^ k) = ival b v * 2 ^ k := by
  cases b
  · simp [ival]
  · simp [ival, Int.neg_mul]
/-- Nothing is left: how far makes no difference. -/
theorem shr_far {z : Int} {k k' : Nat} (h : z.natAbs < 2 ^ k) (hk : k ≤ k') : z / 2 ^ k = z / 2 ^ k' := by
  have key : ∀ j : Nat, z.natAbs < 2 ^ j → z / 2 ^ j = if z < 0 then -1 else 0 := by
    intro j hj
    have hc : ((2 ^ j : Nat) : Int) = 2 ^ j := by simp
    rw [← hc]
    generalize 2 ^ j = M at *
    split
    · have e : z = ((M : Int) - z.natAbs) + (M : Int) * (-1) := by omega
      rw [e, Int.add_mul_ediv_left _ _ (by omega), Int.ediv_eq_zero_of_lt (by omega) (by omega)]; rfl
    · exact Int.ediv_eq_zero_of_lt (by omega) (by omega)
  rw [key k h, key k' (Nat.lt_of_lt_of_le h (Nat.pow_le_pow_right (by decide) hk))]
theorem tz_mod {v m : Nat} (h0 : v ≠ 0) : (tz v < m ↔ v % 2 ^ m ≠ 0) := by
  obtain ⟨r, hr⟩ := tz_spec h0
  generalize tz v = t at *
  constructor
  · intro hlt h
    have hd := Nat.dvd_of_mod_eq_zero h
    obtain ⟨d, rfl⟩ : ∃ d, m = t + 1 + d := ⟨m - t - 1, by omega⟩
    rw [hr, Nat.add_assoc, Nat.pow_add] at hd
    have hd2 := Nat.dvd_of_mul_dvd_mul_left (Nat.two_pow_pos t) hd
    rw [Nat.pow_add] at hd2
    have h2 : 2 ∣ 2 * r + 1 := Nat.dvd_trans ⟨2 ^ d, by rw [Nat.pow_one]⟩ hd2
    omega
  · intro h
    apply Nat.lt_of_not_le
    intro hle
    apply h
    obtain ⟨d, rfl⟩ : ∃ d, t = m + d := ⟨t - m, by omega⟩
    rw [hr, Nat.pow_add, Nat.mul_assoc]
    exact Nat.mul_mod_right _ _
set_option maxRecDepth 100000 in
set_option maxHeartbeats 400000 in
theorem wShift_up (s : ByteArray) (b : Bool) (n : Int) (w : World) (hs : s.size ≤ 4294967296) (h0 : 0 ≤ n) (hn : n ≤ 68719476736) :
    Calls Tryz.prog 46 #[.agg #[.bool b, .string s], .int .i64 n] w fun e w' => e = .returned (.agg #[.bool (neg (ival b (sval s) * 2 ^ n.toNat)), .string (mag (ival b (sval s) * 2 ^ n.toNat))]) ∧ Below w.heap.size w w' := by
  have c1 := Lib.hid (fun W => nShl_any s n W hs hn)
  have c2 := Lib.hid (fun W => wMade_any (nstr (sval s * 2 ^ n.toNat)) b W)
  rw [sval_nstr, ival_shl] at c2
  go_enter Tryz.func46, Tryz.ntmps46
  go_wp2_with fail
  have X1 := (Bx.new w 27 #[.bool b, .string s]).alloc (.cells #[.bool false, .string ⟨#[]⟩] 27)
  have X2 := Bx.at1 w (.cells #[.bool b, .string s] 27) 27 #[.bool false, .string ⟨#[]⟩]
  have hB := b2 w (.cells #[.bool b, .string s] 27) (.cells #[.bool false, .string ⟨#[]⟩] 27)
  generalize (w.alloc (.cells #[.bool b, .string s] 27)).alloc (.cells #[.bool false, .string ⟨#[]⟩] 27) = w0 at *
  have hl0 := X1.lt
  have hl1 := X2.lt
  obtain ⟨p1, p2, p3, p4⟩ := (X1).two
  obtain ⟨q1, q2, q3, q4⟩ := (X2).two
  go_region_held3 (fun w' => w'.cell? ⟨w.heap.size, 0, none⟩ = some (.bool b) ∧ w'.cell? ⟨w.heap.size, 1, none⟩ = some (.string s)) (first | exact ⟨p1, p2⟩ | exact ⟨cell_later hb p1, cell_later hb p2⟩ | exact ⟨cell_later hb2 (cell_later hb p1), cell_later hb2 (cell_later hb p2)⟩ | exact ⟨cell_far2 (cell_later hb2 (cell_later hb p1)) (by omega) _ _, cell_far2 (cell_later hb2 (cell_later hb p2)) (by omega) _ _⟩ | exact ⟨cell_later (b1 wm _) (cell_later hb2 (cell_later hb p1)), cell_later (b1 wm _) (cell_later hb2 (cell_later hb p2))⟩)
    (first
      | (go_at_call 70; refine (c1.out w0.drew).mono ?_; rintro e wn ⟨rfl, hb'⟩; have hb := undrew hb'; clear hb')
      | (go_at_call 63; refine (c2.out wn).mono ?_; rintro e wm ⟨rfl, hb2⟩; obtain ⟨t1, t2, t3, t4⟩ := ((X2.later hb).later hb2).two))
  go_wp2
  exact bodyPost_ret (v := .agg #[.bool (neg (ival b (sval s) * 2 ^ n.toNat)), .string (mag (ival b (sval s) * 2 ^ n.toNat))]) (by simp [results, Tryz.results46, go_sem, (((X2.later hb).later hb2).set2 _ _).cel]) rfl ⟨rfl, st2 (nxt (nxt hB hb) hb2) (Nat.le_add_right _ 1) _ _⟩

set_option maxRecDepth 100000 in
set_option maxHeartbeats 400000 in
theorem wShift_pos (s : ByteArray) (n : Int) (m : Nat) (w : World) (hs : s.size ≤ 4294967296) (_hs2 : s.size ≤ 536870912) (h0 : n < 0) (hm : max n (-1099511627776) = -(m : Int)) (hmb : m ≤ 1099511627776)  (hT : TabAt 0 Lib.deBruijn64tab w) :
    Calls Tryz.prog 46 #[.agg #[.bool false, .string s], .int .i64 n] w fun e w' => e = .returned (.agg #[.bool (neg (ival false (sval s / 2 ^ m))), .string (mag (ival false (sval s / 2 ^ m)))]) ∧ Below w.heap.size w w' := by
  have HT := Lib.hid hT
  clear hT
  have c1 := Lib.hid (fun W => nShr_any s (m : Int) W hs (by omega))
  have c2 := Lib.hid (fun W => wMade_any (nstr (sval s / 2 ^ m)) false W)
  rw [sval_nstr] at c2
  simp only [Int.toNat_natCast] at c1
  have hw1 : IntKind.i64.wrap (m : Int) = (m : Int) := IntWalk.i64_in _ (by omega)
  have hw2 : IntKind.i64.wrap (- -(m : Int)) = (m : Int) := by rw [Int.neg_neg]; exact hw1
  go_enter Tryz.func46, Tryz.ntmps46
  go_upto_region 4 with (fail)
  have X1 := (Bx.new w 27 #[.bool false, .string s]).alloc (.cells #[.bool false, .string ⟨#[]⟩] 27)
  have X2 := Bx.at1 w (.cells #[.bool false, .string s] 27) 27 #[.bool false, .string ⟨#[]⟩]
  have hB := b2 w (.cells #[.bool false, .string s] 27) (.cells #[.bool false, .string ⟨#[]⟩] 27)
  generalize (w.alloc (.cells #[.bool false, .string s] 27)).alloc (.cells #[.bool false, .string ⟨#[]⟩] 27) = w0 at *
  have hl0 := X1.lt
  have hl1 := X2.lt
  obtain ⟨p1, p2, p3, p4⟩ := (X1).two
  obtain ⟨q1, q2, q3, q4⟩ := (X2).two
  go_cut [5] (fun s5 wx => ∃ g : Nat, s5 = .pointer (some ⟨g, 0, none⟩) ∧ w.heap.size + 1 < g ∧ Bx wx g 27 #[.bool (neg (ival false (sval s / 2 ^ m))), .string (mag (ival false (sval s / 2 ^ m)))] ∧ Bx wx w.heap.size 27 #[.bool false, .string s] ∧ Bx wx (w.heap.size + 1) 27 #[.bool false, .string ⟨#[]⟩] ∧ Below w.heap.size w wx)
  case first =>
    go_region_held3 (fun w' => w'.cell? ⟨w.heap.size, 0, none⟩ = some (.bool false) ∧ w'.cell? ⟨w.heap.size, 1, none⟩ = some (.string s)) (first | exact ⟨p1, p2⟩ | (obtain ⟨a1, a2⟩ := ‹_ ∧ _›; first | exact ⟨cell_later hb2 a1, cell_later hb2 a2⟩ | exact ⟨cell_later hb a1, cell_later hb a2⟩ | exact ⟨cell_later (b1 _ _) a1, cell_later (b1 _ _) a2⟩ | exact ⟨cell_swap a1 (by omega), cell_swap a2 (by omega)⟩ | exact ⟨cell_far2 a1 (by omega) _ _, cell_far2 a2 (by omega) _ _⟩))
      (first
        | (go_at_call 71; refine (c1.out _).mono ?_; rintro e wn ⟨rfl, hb⟩; have hz := hb.size; (try simp at hz))
        | (go_at_call 63; refine (c2.out _).mono ?_; rintro e wm ⟨rfl, hb2⟩; have hz2 := hb2.size; (try simp at hz2); (try (have nn := ((Bx.new w0 27 #[.bool false, .string ⟨#[]⟩]).drew.later hb).later hb2; have n1 := nn.cel 0; have n2 := nn.cel 1; have n3 := nn.free 0; have n4 := nn.free 1; simp at n1 n2; clear nn)); (try (have nn := (Bx.new wn 27 #[.bool false, .string ⟨#[]⟩]).later hb2; have n1 := nn.cel 0; have n2 := nn.cel 1; have n3 := nn.free 0; have n4 := nn.free 1; simp at n1 n2; clear nn))))
    all_goals
      go_wp2_with fail
      go_meet
      first
        | exact ⟨_, rfl, (by omega), Bx.new wm _ _, ((X1.later (undrew hb)).later hb2).alloc _, ((X2.later (undrew hb)).later hb2).alloc _, nxtA (nxt (nxt hB (undrew hb)) hb2) _⟩
        | exact ⟨_, rfl, (by omega), ((Bx.new wn _ _).later hb2).set2 _ _, (((X1.later (undrew hb)).alloc _).later hb2).far2 (by omega) _ _, (((X2.later (undrew hb)).alloc _).later hb2).far2 (by omega) _ _, st2 (nxt (nxtA (nxt hB (undrew hb)) _) hb2) (by omega) _ _⟩
        | exact ⟨_, rfl, hl1, (((Bx.new w0 27 #[.bool false, .string ⟨#[]⟩]).drew.later hb).later hb2).set2 _ _, (((X1.alloc _).drew.later hb).later hb2).far2 (Nat.ne_of_lt hl0) _ _, (((X2.alloc _).drew.later hb).later hb2).far2 (Nat.ne_of_lt hl1) _ _, st2 (nxt (nxt (nxtA hB _).drew hb) hb2) (Nat.le_of_lt hl0) _ _⟩
  case rest =>
    obtain ⟨g, rfl, hg, Y3, Y1, Y2, hB⟩ := hcut
    obtain ⟨p1, p2, _, _⟩ := Y1.two
    obtain ⟨q1, q2, q3, q4⟩ := Y2.two
    obtain ⟨v1, v2, v3, v4⟩ := Y3.two
    go_wp2_with fail
    exact bodyPost_ret (v := .agg #[.bool (neg (ival false (sval s / 2 ^ m))), .string (mag (ival false (sval s / 2 ^ m)))]) (by simp [results, Tryz.results46, go_sem, (Y2.set2 _ _).cel]) rfl ⟨rfl, st2 hB (Nat.le_add_right _ 1) _ _⟩

set_option maxRecDepth 100000 in
set_option maxHeartbeats 400000 in
theorem wShift_zero (s : ByteArray) (n : Int) (m : Nat) (w : World) (hs : s.size ≤ 4294967296) (_hs2 : s.size ≤ 536870912) (h0 : n < 0) (hm : max n (-1099511627776) = -(m : Int)) (hmb : m ≤ 1099511627776) (hz : sval s = 0) (hT : TabAt 0 Lib.deBruijn64tab w) :
    Calls Tryz.prog 46 #[.agg #[.bool true, .string s], .int .i64 n] w fun e w' => e = .returned (.agg #[.bool (neg (ival true (sval s / 2 ^ m))), .string (mag (ival true (sval s / 2 ^ m)))]) ∧ Below w.heap.size w w' := by
  have HT := Lib.hid hT
  clear hT
  have c1 := Lib.hid (fun W => nShr_any s (m : Int) W hs (by omega))
  have c2 := Lib.hid (fun W => wMade_any (nstr (sval s / 2 ^ m)) true W)
  rw [sval_nstr] at c2
  simp only [Int.toNat_natCast] at c1
  have hL : nd 1 (sval s) = 0 := by rw [hz]; rfl
  have cL := Lib.hid (fun W => nLen_any s W hs)
  rw [hL] at cL
  clear hL hz
  have hw1 : IntKind.i64.wrap (m : Int) = (m : Int) := IntWalk.i64_in _ (by omega)
  have hw2 : IntKind.i64.wrap (- -(m : Int)) = (m : Int) := by rw [Int.neg_neg]; exact hw1
  go_enter Tryz.func46, Tryz.ntmps46
  go_upto_region 4 with (fail)
  have X1 := (Bx.new w 27 #[.bool true, .string s]).alloc (.cells #[.bool false, .string ⟨#[]⟩] 27)
  have X2 := Bx.at1 w (.cells #[.bool true, .string s] 27) 27 #[.bool false, .string ⟨#[]⟩]
  have hB := b2 w (.cells #[.bool true, .string s] 27) (.cells #[.bool false, .string ⟨#[]⟩] 27)
  generalize (w.alloc (.cells #[.bool true, .string s] 27)).alloc (.cells #[.bool false, .string ⟨#[]⟩] 27) = w0 at *
  have hl0 := X1.lt
  have hl1 := X2.lt
  obtain ⟨p1, p2, p3, p4⟩ := (X1).two
  obtain ⟨q1, q2, q3, q4⟩ := (X2).two
  go_cut [5] (fun s5 wx => ∃ g : Nat, s5 = .pointer (some ⟨g, 0, none⟩) ∧ w.heap.size + 1 < g ∧ Bx wx g 27 #[.bool (neg (ival true (sval s / 2 ^ m))), .string (mag (ival true (sval s / 2 ^ m)))] ∧ Bx wx w.heap.size 27 #[.bool true, .string s] ∧ Bx wx (w.heap.size + 1) 27 #[.bool false, .string ⟨#[]⟩] ∧ Below w.heap.size w wx)
  case first =>
    go_region_held3 (fun w' => w'.cell? ⟨w.heap.size, 0, none⟩ = some (.bool true) ∧ w'.cell? ⟨w.heap.size, 1, none⟩ = some (.string s)) (first | exact ⟨p1, p2⟩ | (obtain ⟨a1, a2⟩ := ‹_ ∧ _›; first | exact ⟨cell_later hb2 a1, cell_later hb2 a2⟩ | exact ⟨cell_later hb a1, cell_later hb a2⟩ | exact ⟨cell_later (b1 _ _) a1, cell_later (b1 _ _) a2⟩ | exact ⟨cell_swap a1 (by omega), cell_swap a2 (by omega)⟩ | exact ⟨cell_far2 a1 (by omega) _ _, cell_far2 a2 (by omega) _ _⟩))
      (first
        | (go_at_call 71; refine (c1.out _).mono ?_; rintro e wn ⟨rfl, hb⟩; have hz := hb.size; (try simp at hz))
        | (go_at_call 63; refine (c2.out _).mono ?_; rintro e wm ⟨rfl, hb2⟩; have hz2 := hb2.size; (try simp at hz2); (try (have nn := ((Bx.new w0 27 #[.bool false, .string ⟨#[]⟩]).drew.later hb).later hb2; have n1 := nn.cel 0; have n2 := nn.cel 1; have n3 := nn.free 0; have n4 := nn.free 1; simp at n1 n2; clear nn)); (try (have nn := (Bx.new wn 27 #[.bool false, .string ⟨#[]⟩]).later hb2; have n1 := nn.cel 0; have n2 := nn.cel 1; have n3 := nn.free 0; have n4 := nn.free 1; simp at n1 n2; clear nn))))
    all_goals
      go_wp2_with fail
      go_meet
      first
        | exact ⟨_, rfl, (by omega), Bx.new wm _ _, ((X1.later (undrew hb)).later hb2).alloc _, ((X2.later (undrew hb)).later hb2).alloc _, nxtA (nxt (nxt hB (undrew hb)) hb2) _⟩
        | exact ⟨_, rfl, (by omega), ((Bx.new wn _ _).later hb2).set2 _ _, (((X1.later (undrew hb)).alloc _).later hb2).far2 (by omega) _ _, (((X2.later (undrew hb)).alloc _).later hb2).far2 (by omega) _ _, st2 (nxt (nxtA (nxt hB (undrew hb)) _) hb2) (by omega) _ _⟩
        | exact ⟨_, rfl, hl1, (((Bx.new w0 27 #[.bool false, .string ⟨#[]⟩]).drew.later hb).later hb2).set2 _ _, (((X1.alloc _).drew.later hb).later hb2).far2 (Nat.ne_of_lt hl0) _ _, (((X2.alloc _).drew.later hb).later hb2).far2 (Nat.ne_of_lt hl1) _ _, st2 (nxt (nxt (nxtA hB _).drew hb) hb2) (Nat.le_of_lt hl0) _ _⟩
  case rest =>
    obtain ⟨g, rfl, hg, Y3, Y1, Y2, hB⟩ := hcut
    obtain ⟨p1, p2, _, _⟩ := Y1.two
    obtain ⟨q1, q2, q3, q4⟩ := Y2.two
    obtain ⟨v1, v2, v3, v4⟩ := Y3.two
    go_wp2_with fail
    refine (cL.out _).mono ?_
    rintro e wL ⟨rfl, hbL⟩
    replace Y1 := Y1.later hbL
    replace Y2 := Y2.later hbL
    replace Y3 := Y3.later hbL
    replace hB := nxt hB hbL
    clear hbL p1 p2 q1 q2 q3 q4 v1 v2 v3 v4
    obtain ⟨p1, p2, _, _⟩ := Y1.two
    obtain ⟨q1, q2, q3, q4⟩ := Y2.two
    obtain ⟨v1, v2, v3, v4⟩ := Y3.two
    go_wp2_with fail
    exact bodyPost_ret (v := .agg #[.bool (neg (ival true (sval s / 2 ^ m))), .string (mag (ival true (sval s / 2 ^ m)))]) (by simp [results, Tryz.results46, go_sem, (Y2.set2 _ _).cel]) rfl ⟨rfl, st2 hB (Nat.le_add_right _ 1) _ _⟩

set_option maxRecDepth 100000 in
set_option maxHeartbeats 400000 in
theorem wShift_even (s : ByteArray) (n : Int) (m : Nat) (w : World) (hs : s.size ≤ 4294967296) (_hs2 : s.size ≤ 536870912) (h0 : n < 0) (hm : max n (-1099511627776) = -(m : Int)) (hmb : m ≤ 1099511627776) (hz : sval s ≠ 0) (ht : sval s % 2 ^ m = 0) (hT : TabAt 0 Lib.deBruijn64tab w) :
    Calls Tryz.prog 46 #[.agg #[.bool true, .string s], .int .i64 n] w fun e w' => e = .returned (.agg #[.bool (neg (ival true (sval s / 2 ^ m))), .string (mag (ival true (sval s / 2 ^ m)))]) ∧ Below w.heap.size w w' := by
  have HT := Lib.hid hT
  clear hT
  have c1 := Lib.hid (fun W => nShr_any s (m : Int) W hs (by omega))
  have c2 := Lib.hid (fun W => wMade_any (nstr (sval s / 2 ^ m)) true W)
  rw [sval_nstr] at c2
  simp only [Int.toNat_natCast] at c1
  have hL : 0 < nd 1 (sval s) := nd_pos hz
  have cL := Lib.hid (fun W => nLen_any s W hs)
  have cZ := Lib.hid (fun W => nZeros_any s W hs)
  have hZ : ¬ ((tz (sval s) : Nat) : Int) < (m : Int) := fun h => (tz_mod hz).1 (by omega) ht
  clear hz ht
  have hw1 : IntKind.i64.wrap (m : Int) = (m : Int) := IntWalk.i64_in _ (by omega)
  have hw2 : IntKind.i64.wrap (- -(m : Int)) = (m : Int) := by rw [Int.neg_neg]; exact hw1
  go_enter Tryz.func46, Tryz.ntmps46
  go_upto_region 4 with (fail)
  have X1 := (Bx.new w 27 #[.bool true, .string s]).alloc (.cells #[.bool false, .string ⟨#[]⟩] 27)
  have X2 := Bx.at1 w (.cells #[.bool true, .string s] 27) 27 #[.bool false, .string ⟨#[]⟩]
  have hB := b2 w (.cells #[.bool true, .string s] 27) (.cells #[.bool false, .string ⟨#[]⟩] 27)
  generalize (w.alloc (.cells #[.bool true, .string s] 27)).alloc (.cells #[.bool false, .string ⟨#[]⟩] 27) = w0 at *
  have hl0 := X1.lt
  have hl1 := X2.lt
  obtain ⟨p1, p2, p3, p4⟩ := (X1).two
  obtain ⟨q1, q2, q3, q4⟩ := (X2).two
  go_cut [5] (fun s5 wx => ∃ g : Nat, s5 = .pointer (some ⟨g, 0, none⟩) ∧ w.heap.size + 1 < g ∧ Bx wx g 27 #[.bool (neg (ival true (sval s / 2 ^ m))), .string (mag (ival true (sval s / 2 ^ m)))] ∧ Bx wx w.heap.size 27 #[.bool true, .string s] ∧ Bx wx (w.heap.size + 1) 27 #[.bool false, .string ⟨#[]⟩] ∧ Below w.heap.size w wx)
  case first =>
    go_region_held3 (fun w' => w'.cell? ⟨w.heap.size, 0, none⟩ = some (.bool true) ∧ w'.cell? ⟨w.heap.size, 1, none⟩ = some (.string s)) (first | exact ⟨p1, p2⟩ | (obtain ⟨a1, a2⟩ := ‹_ ∧ _›; first | exact ⟨cell_later hb2 a1, cell_later hb2 a2⟩ | exact ⟨cell_later hb a1, cell_later hb a2⟩ | exact ⟨cell_later (b1 _ _) a1, cell_later (b1 _ _) a2⟩ | exact ⟨cell_swap a1 (by omega), cell_swap a2 (by omega)⟩ | exact ⟨cell_far2 a1 (by omega) _ _, cell_far2 a2 (by omega) _ _⟩))
      (first
        | (go_at_call 71; refine (c1.out _).mono ?_; rintro e wn ⟨rfl, hb⟩; have hz := hb.size; (try simp at hz))
        | (go_at_call 63; refine (c2.out _).mono ?_; rintro e wm ⟨rfl, hb2⟩; have hz2 := hb2.size; (try simp at hz2); (try (have nn := ((Bx.new w0 27 #[.bool false, .string ⟨#[]⟩]).drew.later hb).later hb2; have n1 := nn.cel 0; have n2 := nn.cel 1; have n3 := nn.free 0; have n4 := nn.free 1; simp at n1 n2; clear nn)); (try (have nn := (Bx.new wn 27 #[.bool false, .string ⟨#[]⟩]).later hb2; have n1 := nn.cel 0; have n2 := nn.cel 1; have n3 := nn.free 0; have n4 := nn.free 1; simp at n1 n2; clear nn))))
    all_goals
      go_wp2_with fail
      go_meet
      first
        | exact ⟨_, rfl, (by omega), Bx.new wm _ _, ((X1.later (undrew hb)).later hb2).alloc _, ((X2.later (undrew hb)).later hb2).alloc _, nxtA (nxt (nxt hB (undrew hb)) hb2) _⟩
        | exact ⟨_, rfl, (by omega), ((Bx.new wn _ _).later hb2).set2 _ _, (((X1.later (undrew hb)).alloc _).later hb2).far2 (by omega) _ _, (((X2.later (undrew hb)).alloc _).later hb2).far2 (by omega) _ _, st2 (nxt (nxtA (nxt hB (undrew hb)) _) hb2) (by omega) _ _⟩
        | exact ⟨_, rfl, hl1, (((Bx.new w0 27 #[.bool false, .string ⟨#[]⟩]).drew.later hb).later hb2).set2 _ _, (((X1.alloc _).drew.later hb).later hb2).far2 (Nat.ne_of_lt hl0) _ _, (((X2.alloc _).drew.later hb).later hb2).far2 (Nat.ne_of_lt hl1) _ _, st2 (nxt (nxt (nxtA hB _).drew hb) hb2) (Nat.le_of_lt hl0) _ _⟩
  case rest =>
    obtain ⟨g, rfl, hg, Y3, Y1, Y2, hB⟩ := hcut
    obtain ⟨p1, p2, _, _⟩ := Y1.two
    obtain ⟨q1, q2, q3, q4⟩ := Y2.two
    obtain ⟨v1, v2, v3, v4⟩ := Y3.two
    go_wp2_with fail
    refine (cL.out _).mono ?_
    rintro e wL ⟨rfl, hbL⟩
    replace Y1 := Y1.later hbL
    replace Y2 := Y2.later hbL
    replace Y3 := Y3.later hbL
    replace hB := nxt hB hbL
    clear hbL p1 p2 q1 q2 q3 q4 v1 v2 v3 v4
    obtain ⟨p1, p2, _, _⟩ := Y1.two
    obtain ⟨q1, q2, q3, q4⟩ := Y2.two
    obtain ⟨v1, v2, v3, v4⟩ := Y3.two
    go_wp2_with fail
    refine (cZ.out _ (tab_keep HT.out hB)).mono ?_
    rintro e wZ ⟨rfl, hbZ⟩
    replace Y1 := Y1.later hbZ
    replace Y2 := Y2.later hbZ
    replace Y3 := Y3.later hbZ
    replace hB := nxt hB hbZ
    clear hbZ p1 p2 q1 q2 q3 q4 v1 v2 v3 v4
    obtain ⟨p1, p2, _, _⟩ := Y1.two
    obtain ⟨q1, q2, q3, q4⟩ := Y2.two
    obtain ⟨v1, v2, v3, v4⟩ := Y3.two
    go_wp2_with fail
    exact bodyPost_ret (v := .agg #[.bool (neg (ival true (sval s / 2 ^ m))), .string (mag (ival true (sval s / 2 ^ m)))]) (by simp [results, Tryz.results46, go_sem, (Y2.set2 _ _).cel]) rfl ⟨rfl, st2 hB (Nat.le_add_right _ 1) _ _⟩

set_option maxRecDepth 100000 in
set_option maxHeartbeats 400000 in
theorem wShift_odd (s : ByteArray) (n : Int) (m : Nat) (w : World) (hs : s.size ≤ 4294967296) (hs2 : s.size ≤ 536870912) (h0 : n < 0) (hm : max n (-1099511627776) = -(m : Int)) (hmb : m ≤ 1099511627776) (hz : sval s ≠ 0) (ht : sval s % 2 ^ m ≠ 0) (hT : TabAt 0 Lib.deBruijn64tab w) :
    Calls Tryz.prog 46 #[.agg #[.bool true, .string s], .int .i64 n] w fun e w' => e = .returned (.agg #[.bool (neg (ival true (sval s / 2 ^ m) - 1)), .string (mag (ival true (sval s / 2 ^ m) - 1))]) ∧ Below w.heap.size w w' := by
  have HT := Lib.hid hT
  clear hT
  have c1 := Lib.hid (fun W => nShr_any s (m : Int) W hs (by omega))
  have c2 := Lib.hid (fun W => wMade_any (nstr (sval s / 2 ^ m)) true W)
  rw [sval_nstr] at c2
  simp only [Int.toNat_natCast] at c1
  have cO := Lib.hid (fun W => wOf_any 1 W (by decide) (by decide))
  have hzs : (mag (ival true (sval s / 2 ^ m))).size ≤ 536870912 := by
    rw [mag_size]
    refine Nat.le_trans (bsz_natAbs_le (y := ival true (sval s)) ?_) (Nat.le_trans (bsz_ival _ _) hs2)
    rw [ival_natAbs, ival_natAbs]; exact Nat.div_le_self _ _
  have cS := Lib.hid (fun W => wSub_any (mag (ival true (sval s / 2 ^ m))) (mag 1) (neg (ival true (sval s / 2 ^ m))) (neg 1) W hzs (by decide))
  rw [ival_mk, ival_mk] at cS
  clear hzs
  have hL : 0 < nd 1 (sval s) := nd_pos hz
  have cL := Lib.hid (fun W => nLen_any s W hs)
  have cZ := Lib.hid (fun W => nZeros_any s W hs)
  have hZ : ((tz (sval s) : Nat) : Int) < (m : Int) := by have := (tz_mod hz).2 ht; omega
  clear hz ht
  have hw1 : IntKind.i64.wrap (m : Int) = (m : Int) := IntWalk.i64_in _ (by omega)
  have hw2 : IntKind.i64.wrap (- -(m : Int)) = (m : Int) := by rw [Int.neg_neg]; exact hw1
  go_enter Tryz.func46, Tryz.ntmps46
  go_upto_region 4 with (fail)
  have X1 := (Bx.new w 27 #[.bool true, .string s]).alloc (.cells #[.bool false, .string ⟨#[]⟩] 27)
  have X2 := Bx.at1 w (.cells #[.bool true, .string s] 27) 27 #[.bool false, .string ⟨#[]⟩]
  have hB := b2 w (.cells #[.bool true, .string s] 27) (.cells #[.bool false, .string ⟨#[]⟩] 27)
  generalize (w.alloc (.cells #[.bool true, .string s] 27)).alloc (.cells #[.bool false, .string ⟨#[]⟩] 27) = w0 at *
  have hl0 := X1.lt
  have hl1 := X2.lt
  obtain ⟨p1, p2, p3, p4⟩ := (X1).two
  obtain ⟨q1, q2, q3, q4⟩ := (X2).two
  go_cut [5] (fun s5 wx => ∃ g : Nat, s5 = .pointer (some ⟨g, 0, none⟩) ∧ w.heap.size + 1 < g ∧ Bx wx g 27 #[.bool (neg (ival true (sval s / 2 ^ m))), .string (mag (ival true (sval s / 2 ^ m)))] ∧ Bx wx w.heap.size 27 #[.bool true, .string s] ∧ Bx wx (w.heap.size + 1) 27 #[.bool false, .string ⟨#[]⟩] ∧ Below w.heap.size w wx)
  case first =>
    go_region_held3 (fun w' => w'.cell? ⟨w.heap.size, 0, none⟩ = some (.bool true) ∧ w'.cell? ⟨w.heap.size, 1, none⟩ = some (.string s)) (first | exact ⟨p1, p2⟩ | (obtain ⟨a1, a2⟩ := ‹_ ∧ _›; first | exact ⟨cell_later hb2 a1, cell_later hb2 a2⟩ | exact ⟨cell_later hb a1, cell_later hb a2⟩ | exact ⟨cell_later (b1 _ _) a1, cell_later (b1 _ _) a2⟩ | exact ⟨cell_swap a1 (by omega), cell_swap a2 (by omega)⟩ | exact ⟨cell_far2 a1 (by omega) _ _, cell_far2 a2 (by omega) _ _⟩))
      (first
        | (go_at_call 71; refine (c1.out _).mono ?_; rintro e wn ⟨rfl, hb⟩; have hz := hb.size; (try simp at hz))
        | (go_at_call 63; refine (c2.out _).mono ?_; rintro e wm ⟨rfl, hb2⟩; have hz2 := hb2.size; (try simp at hz2); (try (have nn := ((Bx.new w0 27 #[.bool false, .string ⟨#[]⟩]).drew.later hb).later hb2; have n1 := nn.cel 0; have n2 := nn.cel 1; have n3 := nn.free 0; have n4 := nn.free 1; simp at n1 n2; clear nn)); (try (have nn := (Bx.new wn 27 #[.bool false, .string ⟨#[]⟩]).later hb2; have n1 := nn.cel 0; have n2 := nn.cel 1; have n3 := nn.free 0; have n4 := nn.free 1; simp at n1 n2; clear nn))))
    all_goals
      go_wp2_with fail
      go_meet
      first
        | exact ⟨_, rfl, (by omega), Bx.new wm _ _, ((X1.later (undrew hb)).later hb2).alloc _, ((X2.later (undrew hb)).later hb2).alloc _, nxtA (nxt (nxt hB (undrew hb)) hb2) _⟩
        | exact ⟨_, rfl, (by omega), ((Bx.new wn _ _).later hb2).set2 _ _, (((X1.later (undrew hb)).alloc _).later hb2).far2 (by omega) _ _, (((X2.later (undrew hb)).alloc _).later hb2).far2 (by omega) _ _, st2 (nxt (nxtA (nxt hB (undrew hb)) _) hb2) (by omega) _ _⟩
        | exact ⟨_, rfl, hl1, (((Bx.new w0 27 #[.bool false, .string ⟨#[]⟩]).drew.later hb).later hb2).set2 _ _, (((X1.alloc _).drew.later hb).later hb2).far2 (Nat.ne_of_lt hl0) _ _, (((X2.alloc _).drew.later hb).later hb2).far2 (Nat.ne_of_lt hl1) _ _, st2 (nxt (nxt (nxtA hB _).drew hb) hb2) (Nat.le_of_lt hl0) _ _⟩
  case rest =>
    obtain ⟨g, rfl, hg, Y3, Y1, Y2, hB⟩ := hcut
    obtain ⟨p1, p2, _, _⟩ := Y1.two
    obtain ⟨q1, q2, q3, q4⟩ := Y2.two
    obtain ⟨v1, v2, v3, v4⟩ := Y3.two
    go_wp2_with fail
    refine (cL.out _).mono ?_
    rintro e wL ⟨rfl, hbL⟩
    replace Y1 := Y1.later hbL
    replace Y2 := Y2.later hbL
    replace Y3 := Y3.later hbL
    replace hB := nxt hB hbL
    clear hbL p1 p2 q1 q2 q3 q4 v1 v2 v3 v4
    obtain ⟨p1, p2, _, _⟩ := Y1.two
    obtain ⟨q1, q2, q3, q4⟩ := Y2.two
    obtain ⟨v1, v2, v3, v4⟩ := Y3.two
    go_wp2_with fail
    refine (cZ.out _ (tab_keep HT.out hB)).mono ?_
    rintro e wZ ⟨rfl, hbZ⟩
    replace Y1 := Y1.later hbZ
    replace Y2 := Y2.later hbZ
    replace Y3 := Y3.later hbZ
    replace hB := nxt hB hbZ
    clear hbZ p1 p2 q1 q2 q3 q4 v1 v2 v3 v4
    obtain ⟨p1, p2, _, _⟩ := Y1.two
    obtain ⟨q1, q2, q3, q4⟩ := Y2.two
    obtain ⟨v1, v2, v3, v4⟩ := Y3.two
    go_wp2_with fail
    go_region_held3 (fun w' => w'.cell? ⟨g, 0, none⟩ = some (.bool (neg (ival true (sval s / 2 ^ m)))) ∧ w'.cell? ⟨g, 1, none⟩ = some (.string (mag (ival true (sval s / 2 ^ m))))) (first | exact ⟨v1, v2⟩ | exact ⟨cell_later hb v1, cell_later hb v2⟩ | exact ⟨cell_later hb2 (cell_later hb v1), cell_later hb2 (cell_later hb v2)⟩ | exact ⟨cell_far2 (cell_later hb2 (cell_later hb v1)) (by omega) _ _, cell_far2 (cell_later hb2 (cell_later hb v2)) (by omega) _ _⟩)
      (first
        | (go_at_call 49; refine (cO.out wZ.drew).mono ?_; rintro e wa ⟨rfl, hb'⟩; have hb := undrew hb'; clear hb')
        | (go_at_call 52; refine (cS.out wa).mono ?_; rintro e wb ⟨rfl, hb2⟩; obtain ⟨t1, t2, t3, t4⟩ := ((Y2.later hb).later hb2).two))
    go_wp2
    exact bodyPost_ret (v := .agg #[.bool (neg (ival true (sval s / 2 ^ m) - 1)), .string (mag (ival true (sval s / 2 ^ m) - 1))]) (by simp [results, Tryz.results46, go_sem, (((Y2.later hb).later hb2).set2 _ _).cel]) rfl ⟨rfl, st2 (nxt (nxt hB hb) hb2) (Nat.le_add_right _ 1) _ _⟩

theorem wShift_any (s : ByteArray) (b : Bool) (n : Int) (w : World) (hs : s.size ≤ 536870912) (hn : n ≤ 68719476736) (hn2 : -9223372036854775808 ≤ n) (hT : TabAt 0 Lib.deBruijn64tab w) :
    Calls Tryz.prog 46 #[.agg #[.bool b, .string s], .int .i64 n] w fun e w' => e = .returned (.agg #[.bool (neg (shiftI (ival b (sval s)) n)), .string (mag (shiftI (ival b (sval s)) n))]) ∧ Below w.heap.size w w' := by
  have hs4 : s.size ≤ 4294967296 := by omega
  by_cases h0 : 0 ≤ n
  · have e : shiftI (ival b (sval s)) n = ival b (sval s) * 2 ^ n.toNat := by unfold shiftI; rw [if_pos h0]
    rw [e]
    exact wShift_up s b n w hs4 h0 hn
  · obtain ⟨m, hm⟩ : ∃ m : Nat, max n (-1099511627776) = -(m : Int) := ⟨(max n (-1099511627776)).natAbs, by omega⟩
    have hmb : m ≤ 1099511627776 := by omega
    obtain ⟨K, hK⟩ : ∃ K : Nat, K = 1099511627776 := ⟨_, rfl⟩
    have hlt : sval s < 2 ^ K := by
      refine Nat.lt_of_lt_of_le (sval_lt s) ?_
      rw [show 256 = 2 ^ 8 from rfl, ← Nat.pow_mul]
      exact Nat.pow_le_pow_right (by decide) (by omega)
    have e : shiftI (ival b (sval s)) n = ival b (sval s) / 2 ^ m := by
      unfold shiftI; rw [if_neg h0]
      by_cases hc : -1099511627776 ≤ n
      · congr 2; omega
      · obtain rfl : m = K := by omega
        exact (shr_far (by rw [ival_natAbs]; exact hlt) (by omega)).symm
    rw [e, shr_signs]
    clear e hlt
    cases b
    · rw [if_neg (by simp), Int.sub_zero]
      exact wShift_pos s n m w hs4 hs (by omega) hm hmb hT
    · by_cases hz : sval s = 0
      · rw [if_neg (by rw [hz]; simp), Int.sub_zero]
        exact wShift_zero s n m w hs4 hs (by omega) hm hmb hz hT
      · by_cases ht : sval s % 2 ^ m = 0
        · rw [if_neg (by simp [ht]), Int.sub_zero]
          exact wShift_even s n m w hs4 hs (by omega) hm hmb hz ht hT
        · rw [if_pos ⟨rfl, ht⟩]
          exact wShift_odd s n m w hs4 hs (by omega) hm hmb hz ht hT

end Go.Proofs.YtibbhpgpleeglaaGreatDoor

namespace Go.Proofs.YtibbhpgpleeglaaGreatDoor
open Go.RowKit

theorem shiftI_down (z : Int) (t : Nat) : shiftI z (-(t : Int)) = z / 2 ^ t := by
  unfold shiftI
  by_cases h : t = 0
  · subst h; simp
  · rw [if_neg (by omega), Int.neg_neg, Int.toNat_natCast]
theorem tz_size {s : ByteArray} (h : sval s ≠ 0) : tz (sval s) ≤ 8 * s.size := by
  obtain ⟨q, hq⟩ := tz_spec h
  have h1 := sval_lt s
  rw [show 256 = 2 ^ 8 from rfl, ← Nat.pow_mul] at h1
  have h2 : 2 ^ tz (sval s) ≤ sval s := by
    have h3 : 2 ^ tz (sval s) * 1 ≤ 2 ^ tz (sval s) * (2 * q + 1) := Nat.mul_le_mul_left _ (by omega)
    rw [Nat.mul_one, ← hq] at h3; exact h3
  have h4 := (Nat.pow_lt_pow_iff_right (by decide : 1 < 2)).1 (Nat.lt_of_le_of_lt h2 h1)
  omega
theorem Bx.five {w : World} {g : Nat} {t : TypeId} {x y z u v : Value} (h : Bx w g t #[x, y, z, u, v]) : w.cell? ⟨g, 0, none⟩ = some x ∧ w.cell? ⟨g, 1, none⟩ = some y ∧ w.cell? ⟨g, 2, none⟩ = some z ∧ w.cell? ⟨g, 3, none⟩ = some u ∧ w.cell? ⟨g, 4, none⟩ = some v ∧
    w.frozen? ⟨g, 0, none⟩ = false ∧ w.frozen? ⟨g, 1, none⟩ = false ∧ w.frozen? ⟨g, 2, none⟩ = false ∧ w.frozen? ⟨g, 3, none⟩ = false ∧ w.frozen? ⟨g, 4, none⟩ = false :=
  ⟨h.cel 0, h.cel 1, h.cel 2, h.cel 3, h.cel 4, h.free 0, h.free 1, h.free 2, h.free 3, h.free 4⟩

set_option maxRecDepth 100000 in
set_option maxHeartbeats 400000 in
theorem dOn_any (s : ByteArray) (b : Bool) (e k : Int) (w : World) (hs : s.size ≤ 536870912) (h1 : -9223372036854775808 ≤ e - k) (h2 : e - k ≤ 68719476736) (hT : TabAt 0 Lib.deBruijn64tab w) :
    Calls Tryz.prog 106 #[.int .i64 k, .agg #[.bool b, .string s, .int .i64 e]] w fun r w' => r = .returned (.agg #[.bool (neg (shiftI (ival b (sval s)) (e - k))), .string (mag (shiftI (ival b (sval s)) (e - k)))]) ∧ Below w.heap.size w w' := by
  have HT := Lib.hid hT
  have hw : IntKind.i64.wrap (e - k) = e - k := IntWalk.i64_in _ (by omega)
  have cS := Lib.hid (fun W (h : TabAt 0 Lib.deBruijn64tab W) => wShift_any s b (e - k) W hs h2 h1 h)
  clear hT hs h1 h2
  go_enter Tryz.func106, Tryz.ntmps106
  go_upto_region 1 with (fail)
  have X1 := (Bx.new w 29 #[.bool b, .string s, .int .i64 e]).alloc (.cells #[.bool false, .string ⟨#[]⟩] 27)
  have X2 := Bx.at1 w (.cells #[.bool b, .string s, .int .i64 e] 29) 27 #[.bool false, .string ⟨#[]⟩]
  have hB := b2 w (.cells #[.bool b, .string s, .int .i64 e] 29) (.cells #[.bool false, .string ⟨#[]⟩] 27)
  generalize (w.alloc (.cells #[.bool b, .string s, .int .i64 e] 29)).alloc (.cells #[.bool false, .string ⟨#[]⟩] 27) = w0 at *
  have hl0 := X1.lt
  have hl1 := X2.lt
  obtain ⟨p1, p2, p5, p3, p4, p6⟩ := X1.three
  obtain ⟨q1, q2, q3, q4⟩ := X2.two
  go_wp2_with fail
  refine (cS.out _ (tab_keep HT.out hB)).mono ?_
  rintro e w1 ⟨rfl, hb⟩
  replace X1 := X1.later hb
  replace X2 := X2.later hb
  replace hB := nxt hB hb
  clear hb
  clear p1 p2 p3 p4 p5 p6 q1 q2 q3 q4
  obtain ⟨p1, p2, p5, p3, p4, p6⟩ := X1.three
  obtain ⟨q1, q2, q3, q4⟩ := X2.two
  go_wp2_with fail
  exact bodyPost_ret (v := .agg #[.bool (neg (shiftI (ival b (sval s)) (e - k))), .string (mag (shiftI (ival b (sval s)) (e - k)))]) (by simp [results, Tryz.results106, go_sem, (X2.set2 _ _).cel]) rfl ⟨rfl, st2 hB (Nat.le_add_right _ 1) _ _⟩
set_option maxRecDepth 100000 in
set_option maxHeartbeats 400000 in
theorem dMake_zero (s : ByteArray) (b : Bool) (e : Int) (w : World) (hz : ival b (sval s) = 0) :
    Calls Tryz.prog 29 #[.agg #[.bool b, .string s], .int .i64 e] w fun r w' => r = .returned (.agg #[.bool false, .string ⟨#[]⟩, .int .i64 0]) ∧ Below w.heap.size w w' := by
  have cG := Lib.hid (fun W => wSign_any s b W)
  rw [hz, show sgn 0 = 0 from rfl] at cG
  clear hz
  go_enter Tryz.func29, Tryz.ntmps29
  go_upto_region 1 with (fail)
  have X1 := (Bx.new w 27 #[.bool b, .string s]).alloc (.cells #[.bool false, .string ⟨#[]⟩, .int .i64 (0)] 29)
  have X2 := Bx.at1 w (.cells #[.bool b, .string s] 27) 29 #[.bool false, .string ⟨#[]⟩, .int .i64 (0)]
  have hB := b2 w (.cells #[.bool b, .string s] 27) (.cells #[.bool false, .string ⟨#[]⟩, .int .i64 (0)] 29)
  generalize (w.alloc (.cells #[.bool b, .string s] 27)).alloc (.cells #[.bool false, .string ⟨#[]⟩, .int .i64 (0)] 29) = w0 at *
  have hl0 := X1.lt
  have hl1 := X2.lt
  obtain ⟨p1, p2, p3, p4⟩ := X1.two
  obtain ⟨q1, q2, q5, q3, q4, q6⟩ := X2.three
  go_wp2_with fail
  refine (cG.out _).mono ?_
  rintro e w1 ⟨rfl, hb⟩
  replace X1 := X1.later hb
  replace X2 := X2.later hb
  replace hB := nxt hB hb
  clear hb
  clear p1 p2 p3 p4 q1 q2 q3 q4 q5 q6
  obtain ⟨p1, p2, p3, p4⟩ := X1.two
  obtain ⟨q1, q2, q5, q3, q4, q6⟩ := X2.three
  go_wp2_with fail
  exact bodyPost_ret (v := .agg #[.bool false, .string ⟨#[]⟩, .int .i64 0]) (by simp [results, Tryz.results29, go_sem, (X2.set3 _ _ _).cel]) rfl ⟨rfl, st3 hB (Nat.le_add_right _ 1) _ _ _⟩
set_option maxRecDepth 100000 in
set_option maxHeartbeats 400000 in
theorem dMake_some (s : ByteArray) (b : Bool) (e g q : Int) (t : Nat) (w : World) (hg : g ≠ 0) (he1 : -4611686018427387904 ≤ e) (he2 : e ≤ 4611686018427387904) (ht : t ≤ 68719476736) (hT : TabAt 0 Lib.deBruijn64tab w)
    (cG : Hid (∀ W : World, Calls Tryz.prog 47 #[.agg #[.bool b, .string s]] W fun r w' => r = .returned (.int .i64 g) ∧ Below W.heap.size W w'))
    (cZ : Hid (∀ W : World, TabAt 0 Lib.deBruijn64tab W → Calls Tryz.prog 48 #[.string s] W fun r w' => r = .returned (.int .i64 (t : Nat)) ∧ Below W.heap.size W w'))
    (cS : Hid (∀ W : World, TabAt 0 Lib.deBruijn64tab W → Calls Tryz.prog 46 #[.agg #[.bool b, .string s], .int .i64 (-(t : Int))] W fun r w' => r = .returned (.agg #[.bool (neg q), .string (mag q)]) ∧ Below W.heap.size W w')) :
    Calls Tryz.prog 29 #[.agg #[.bool b, .string s], .int .i64 e] w fun r w' => r = .returned (.agg #[.bool (neg q), .string (mag q), .int .i64 (e + t)]) ∧ Below w.heap.size w w' := by
  have HT := Lib.hid hT
  have hw1 : IntKind.i64.wrap (e + t) = e + t := IntWalk.i64_in _ (by omega)
  have hw2 : IntKind.i64.wrap (-(t : Int)) = -(t : Int) := IntWalk.i64_in _ (by omega)
  clear hT he1 he2 ht
  go_enter Tryz.func29, Tryz.ntmps29
  go_upto_region 1 with (fail)
  have X1 := (Bx.new w 27 #[.bool b, .string s]).alloc (.cells #[.bool false, .string ⟨#[]⟩, .int .i64 (0)] 29)
  have X2 := Bx.at1 w (.cells #[.bool b, .string s] 27) 29 #[.bool false, .string ⟨#[]⟩, .int .i64 (0)]
  have hB := b2 w (.cells #[.bool b, .string s] 27) (.cells #[.bool false, .string ⟨#[]⟩, .int .i64 (0)] 29)
  generalize (w.alloc (.cells #[.bool b, .string s] 27)).alloc (.cells #[.bool false, .string ⟨#[]⟩, .int .i64 (0)] 29) = w0 at *
  have hl0 := X1.lt
  have hl1 := X2.lt
  obtain ⟨p1, p2, p3, p4⟩ := X1.two
  obtain ⟨q1, q2, q5, q3, q4, q6⟩ := X2.three
  go_wp2_with fail
  refine (cG.out _).mono ?_
  rintro e w1 ⟨rfl, hb⟩
  replace X1 := X1.later hb
  replace X2 := X2.later hb
  replace hB := nxt hB hb
  clear hb
  clear p1 p2 p3 p4 q1 q2 q3 q4 q5 q6
  obtain ⟨p1, p2, p3, p4⟩ := X1.two
  obtain ⟨q1, q2, q5, q3, q4, q6⟩ := X2.three
  go_wp2_with fail
  refine (cZ.out _ (tab_keep HT.out hB)).mono ?_
  rintro e w2 ⟨rfl, hb⟩
  replace X1 := X1.later hb
  replace X2 := X2.later hb
  replace hB := nxt hB hb
  clear hb
  clear p1 p2 p3 p4 q1 q2 q3 q4 q5 q6
  obtain ⟨p1, p2, p3, p4⟩ := X1.two
  obtain ⟨q1, q2, q5, q3, q4, q6⟩ := X2.three
  go_wp2_with fail
  refine (cS.out _ (tab_keep HT.out hB)).mono ?_
  rintro e w3 ⟨rfl, hb⟩
  replace X1 := X1.later hb
  replace X2 := X2.later hb
  replace hB := nxt hB hb
  clear hb
  clear p1 p2 p3 p4 q1 q2 q3 q4 q5 q6
  obtain ⟨p1, p2, p3, p4⟩ := X1.two
  obtain ⟨q1, q2, q5, q3, q4, q6⟩ := X2.three
  go_wp2_with fail
  exact bodyPost_ret (v := .agg #[.bool (neg q), .string (mag q), .int .i64 (e + t)]) (by simp [results, Tryz.results29, go_sem, (X2.set3 _ _ _).cel]) rfl ⟨rfl, st3 hB (Nat.le_add_right _ 1) _ _ _⟩
theorem dMake_any (s : ByteArray) (b : Bool) (e : Int) (w : World) (hs : s.size ≤ 536870912) (he1 : -4611686018427387904 ≤ e) (he2 : e ≤ 4611686018427387904) (hT : TabAt 0 Lib.deBruijn64tab w) :
    Calls Tryz.prog 29 #[.agg #[.bool b, .string s], .int .i64 e] w fun r w' => r = .returned (.agg #[.bool (neg (dm (dy (ival b (sval s)) e))), .string (mag (dm (dy (ival b (sval s)) e))), .int .i64 (de (dy (ival b (sval s)) e))]) ∧ Below w.heap.size w w' := by
  by_cases hz : ival b (sval s) = 0
  · have h := dMake_zero s b e w hz
    rw [hz, dy_zero]; exact h
  · have hv : sval s ≠ 0 := fun h => hz (by rw [h, ival_zero])
    have ht := tz_size hv
    obtain ⟨h1, h2⟩ := dm_dy e hz
    rw [ival_natAbs] at h1 h2
    rw [h1, h2]
    have cS := Lib.hid (fun W (h : TabAt 0 Lib.deBruijn64tab W) => wShift_any s b (-(tz (sval s) : Nat)) W hs (by omega) (by omega) h)
    rw [shiftI_down] at cS
    exact dMake_some s b e _ _ (tz (sval s)) w (fun h => hz (sgn_eq.1 h)) he1 he2 (by omega) hT (Lib.hid (fun W => wSign_any s b W)) (Lib.hid (fun W h => nZeros_any s W (by omega) h)) cS

set_option maxRecDepth 100000 in
set_option maxHeartbeats 400000 in
theorem dForm_x (s : ByteArray) (b : Bool) (e : Int) (x : Dyadic) (w : World) (hT : TabAt 0 Lib.deBruijn64tab w)
    (cM : Hid (∀ W : World, TabAt 0 Lib.deBruijn64tab W → Calls Tryz.prog 29 #[.agg #[.bool b, .string s], .int .i64 e] W fun r w' => r = .returned (.agg #[.bool (neg (dm (x))), .string (mag (dm (x))), .int .i64 (de (x))]) ∧ Below W.heap.size W w')) :
    Calls Tryz.prog 45 #[.agg #[.bool b, .string s, .int .i64 e]] w fun r w' => r = .returned (.agg #[.bool (neg (dm (x))), .string (mag (dm (x))), .int .i64 (de (x))]) ∧ Below w.heap.size w w' := by
  have HT := Lib.hid hT
  clear hT
  go_enter Tryz.func45, Tryz.ntmps45
  go_upto_region 1 with (fail)
  have X1 := (Bx.new w 29 #[.bool b, .string s, .int .i64 e]).alloc (.cells #[.bool false, .string ⟨#[]⟩, .int .i64 (0)] 29)
  have X2 := Bx.at1 w (.cells #[.bool b, .string s, .int .i64 e] 29) 29 #[.bool false, .string ⟨#[]⟩, .int .i64 (0)]
  have hB := b2 w (.cells #[.bool b, .string s, .int .i64 e] 29) (.cells #[.bool false, .string ⟨#[]⟩, .int .i64 (0)] 29)
  generalize (w.alloc (.cells #[.bool b, .string s, .int .i64 e] 29)).alloc (.cells #[.bool false, .string ⟨#[]⟩, .int .i64 (0)] 29) = w0 at *
  have hl0 := X1.lt
  have hl1 := X2.lt
  obtain ⟨p1, p2, p5, p3, p4, p6⟩ := X1.three
  obtain ⟨q1, q2, q5, q3, q4, q6⟩ := X2.three
  go_wp2_with fail
  refine (cM.out _ (tab_keep HT.out hB)).mono ?_
  rintro e w1 ⟨rfl, hb⟩
  replace X1 := X1.later hb
  replace X2 := X2.later hb
  replace hB := nxt hB hb
  clear hb
  clear p1 p2 p3 p4 p5 p6 q1 q2 q3 q4 q5 q6
  obtain ⟨p1, p2, p5, p3, p4, p6⟩ := X1.three
  obtain ⟨q1, q2, q5, q3, q4, q6⟩ := X2.three
  go_wp2_with fail
  exact bodyPost_ret (v := .agg #[.bool (neg (dm (x))), .string (mag (dm (x))), .int .i64 (de (x))]) (by simp [results, Tryz.results45, go_sem, (X2.set3 _ _ _).cel]) rfl ⟨rfl, st3 hB (Nat.le_add_right _ 1) _ _ _⟩
theorem dForm_any (s : ByteArray) (b : Bool) (e : Int) (w : World) (hs : s.size ≤ 536870912) (he1 : -4611686018427387904 ≤ e) (he2 : e ≤ 4611686018427387904) (hT : TabAt 0 Lib.deBruijn64tab w) :
    Calls Tryz.prog 45 #[.agg #[.bool b, .string s, .int .i64 e]] w fun r w' => r = .returned (.agg #[.bool (neg (dm (dy (ival b (sval s)) e))), .string (mag (dm (dy (ival b (sval s)) e))), .int .i64 (de (dy (ival b (sval s)) e))]) ∧ Below w.heap.size w w' := by
  exact dForm_x s b e _ w hT (Lib.hid (fun W h => dMake_any s b e W hs he1 he2 h))

set_option maxRecDepth 100000 in
set_option maxHeartbeats 400000 in
theorem dOf_x (n : Int) (x : Dyadic) (w : World) (hT : TabAt 0 Lib.deBruijn64tab w)
    (cO : Hid (∀ W : World, Calls Tryz.prog 49 #[.int .i64 n] W fun r w' => r = .returned (.agg #[.bool (neg n), .string (mag n)]) ∧ Below W.heap.size W w'))
    (cM : Hid (∀ W : World, TabAt 0 Lib.deBruijn64tab W → Calls Tryz.prog 29 #[.agg #[.bool (neg n), .string (mag n)], .int .i64 0] W fun r w' => r = .returned (.agg #[.bool (neg (dm (x))), .string (mag (dm (x))), .int .i64 (de (x))]) ∧ Below W.heap.size W w')) :
    Calls Tryz.prog 41 #[.int .i64 n] w fun r w' => r = .returned (.agg #[.bool (neg (dm (x))), .string (mag (dm (x))), .int .i64 (de (x))]) ∧ Below w.heap.size w w' := by
  have HT := Lib.hid hT
  clear hT
  go_enter Tryz.func41, Tryz.ntmps41
  go_upto_region 1 with (fail)
  have X1 := Bx.new w 29 #[.bool false, .string ⟨#[]⟩, .int .i64 (0)]
  have hB := b1 w (.cells #[.bool false, .string ⟨#[]⟩, .int .i64 (0)] 29)
  generalize w.alloc (.cells #[.bool false, .string ⟨#[]⟩, .int .i64 (0)] 29) = w0 at *
  have hl0 := X1.lt
  obtain ⟨p1, p2, p5, p3, p4, p6⟩ := X1.three
  go_wp2_with fail
  refine (cO.out _).mono ?_
  rintro e w1 ⟨rfl, hb⟩
  replace X1 := X1.later hb
  replace hB := nxt hB hb
  clear hb
  clear p1 p2 p3 p4 p5 p6
  obtain ⟨p1, p2, p5, p3, p4, p6⟩ := X1.three
  go_wp2_with fail
  refine (cM.out _ (tab_keep HT.out hB)).mono ?_
  rintro e w2 ⟨rfl, hb⟩
  replace X1 := X1.later hb
  replace hB := nxt hB hb
  clear hb
  clear p1 p2 p3 p4 p5 p6
  obtain ⟨p1, p2, p5, p3, p4, p6⟩ := X1.three
  go_wp2_with fail
  exact bodyPost_ret (v := .agg #[.bool (neg (dm (x))), .string (mag (dm (x))), .int .i64 (de (x))]) (by simp [results, Tryz.results41, go_sem, (X1.set3 _ _ _).cel]) rfl ⟨rfl, st3 hB (Nat.le_refl _) _ _ _⟩
theorem dOf_any (n : Int) (w : World) (h1 : -9223372036854775808 ≤ n) (h2 : n ≤ 9223372036854775807) (hT : TabAt 0 Lib.deBruijn64tab w) :
    Calls Tryz.prog 41 #[.int .i64 n] w fun r w' => r = .returned (.agg #[.bool (neg (dm (dy n 0))), .string (mag (dm (dy n 0))), .int .i64 (de (dy n 0))]) ∧ Below w.heap.size w w' := by
  have hz : (mag n).size ≤ 536870912 := by rw [mag_size]; exact Nat.le_trans (bsz_small h1 h2) (by decide)
  have c := Lib.hid (fun W h => dMake_any (mag n) (neg n) 0 W hz (by decide) (by decide) h)
  rw [ival_mk] at c
  exact dOf_x n _ w hT (Lib.hid (fun W => wOf_any n W h1 h2)) c

end Go.Proofs.YtibbhpgpleeglaaGreatDoor

