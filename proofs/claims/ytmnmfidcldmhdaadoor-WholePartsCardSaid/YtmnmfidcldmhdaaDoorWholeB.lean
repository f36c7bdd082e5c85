/- The walks of package whole: plus, times. -/
import Derived.Test.YtmnmfidcldmhdaaDoorWholeA
namespace Go.Proofs.YtmnmfidcldmhdaaDoor
open Go.RowKit

theorem add2_any (a b : ByteArray) (w : World) (t : TypeId) (ha : a.size ≤ 1073741824) (hb : b.size ≤ 1073741824) :
    Calls Tryd.prog 68 #[.slice (some ⟨w.heap.size, 0, none⟩) 2 2] (w.alloc (.cells #[.string a, .string b] t)) fun e w' => e = .returned (.string (nstr (sval a + sval b))) ∧ Below w.heap.size w w' := by
  have h := (Cel.new w t #[.string a, .string b]).rd (o := 0) (n := 2) (by simp)
  have hr : Rd (w.alloc (.cells #[.string a, .string b] t)) (some ⟨w.heap.size, 0, none⟩) 2 (fun j => .string (if j = 0 then a else b)) := h.congr fun j hj => by
    have : j = 0 ∨ j = 1 := by omega
    rcases this with rfl | rfl <;> rfl
  have hs : sumTo (fun j => sval (if j = 0 then a else b)) 2 = sval a + sval b := by simp [sumTo]
  refine (nAdd_any _ 2 2 (fun j => if j = 0 then a else b) _ (by decide) (fun j => by split <;> assumption) hr).mono fun e w' ⟨he, hb⟩ => ⟨by rw [he, hs], nxt (b1 _ _) hb⟩

set_option maxRecDepth 100000 in
set_option maxHeartbeats 400000 in
theorem plus_same (s t : ByteArray) (b : Bool) (w : World) (hs : s.size ≤ 1073741824) (ht : t.size ≤ 1073741824) :
    Calls Tryd.prog 44 #[.agg #[.string s, .bool b], .agg #[.string t, .bool b]] w fun e w' => e = .returned (.agg #[.string (nstr (sval s + sval t)), .bool b]) ∧ Below w.heap.size w w' := by
  go_enter Tryd.func44, Tryd.ntmps44
  go_wp2_with fail
  have X1 := ((Bx.new w 56 #[.string s, .bool b]).alloc (.cells #[.string t, .bool b] 56)).alloc (.cells #[.string ⟨#[]⟩, .bool false] 56)
  have X2 := (Bx.at1 w (.cells #[.string s, .bool b] 56) 56 #[.string t, .bool b]).alloc (.cells #[.string ⟨#[]⟩, .bool false] 56)
  have X3 := Bx.at2 w (.cells #[.string s, .bool b] 56) (.cells #[.string t, .bool b] 56) 56 #[.string ⟨#[]⟩, .bool false]
  have hB := b3 w (.cells #[.string s, .bool b] 56) (.cells #[.string t, .bool b] 56) (.cells #[.string ⟨#[]⟩, .bool false] 56)
  generalize ((w.alloc (.cells #[.string s, .bool b] 56)).alloc (.cells #[.string t, .bool b] 56)).alloc (.cells #[.string ⟨#[]⟩, .bool false] 56) = w0 at *
  have hl0 := X1.lt
  have hl1 := X2.lt
  have hl2 := X3.lt
  obtain ⟨p1, p2, p3, p4⟩ := (X1).two
  obtain ⟨q1, q2, q3, q4⟩ := (X2).two
  obtain ⟨r1, r2, r3, r4⟩ := (X3).two
  go_region_held3 (fun w' => w'.cell? ⟨w.heap.size, 0, none⟩ = some (.string s) ∧ w'.cell? ⟨w.heap.size, 1, none⟩ = some (.bool b) ∧ w'.cell? ⟨w.heap.size + 1, 0, none⟩ = some (.string t) ∧ w'.cell? ⟨w.heap.size + 1, 1, none⟩ = some (.bool b)) ((repeat' apply And.intro) <;> (first | assumption | exact cell_later hb (by assumption) | exact cell_far2 (cell_later hb (by assumption)) (by omega) _ _ | exact cell_far2 (by assumption) (by omega) _ _ | go_keep))
    (first | (go_at_call 68; refine (add2_any s t w0.drew _ hs ht).mono ?_; rintro e wn ⟨rfl, hb'⟩; have hb := undrew hb'; clear hb'; obtain ⟨s1, s2, s3, s4⟩ := (X3.later hb).two))
  go_wp2
  exact bodyPost_ret (v := .agg #[.string (nstr (sval s + sval t)), .bool b]) (by simp [results, Tryd.results44, go_sem, ((X3.later hb).set2 _ _).cel]) rfl ⟨rfl, st2 (nxt hB hb) (Nat.le_add_right _ 2) _ _⟩

set_option maxRecDepth 100000 in
set_option maxHeartbeats 400000 in
theorem plus_ge (s t : ByteArray) (b b' : Bool) (w : World) (hs : s.size ≤ 1073741824) (ht : t.size ≤ 1073741824) (hbb : (b == b') = false) (hst : sval t ≤ sval s) :
    Calls Tryd.prog 44 #[.agg #[.string s, .bool b], .agg #[.string t, .bool b']] w fun e w' => e = .returned (.agg #[.string (nstr (sval s - sval t)), .bool b]) ∧ Below w.heap.size w w' := by
  have c1 := Lib.hid (fun W => wcmp_any s t W (by omega) (by omega))
  have c2 := Lib.hid (fun W => nSub_any s t W (by omega) (by omega))
  have h0 : ¬ cmpI (sval s) (sval t) < 0 := fun h => by have := cmpI_lt.1 h; omega
  rw [if_neg (by omega)] at c2
  clear hst
  go_enter Tryd.func44, Tryd.ntmps44
  go_wp2_with fail
  have X1 := ((Bx.new w 56 #[.string s, .bool b]).alloc (.cells #[.string t, .bool b'] 56)).alloc (.cells #[.string ⟨#[]⟩, .bool false] 56)
  have X2 := (Bx.at1 w (.cells #[.string s, .bool b] 56) 56 #[.string t, .bool b']).alloc (.cells #[.string ⟨#[]⟩, .bool false] 56)
  have X3 := Bx.at2 w (.cells #[.string s, .bool b] 56) (.cells #[.string t, .bool b'] 56) 56 #[.string ⟨#[]⟩, .bool false]
  have hB := b3 w (.cells #[.string s, .bool b] 56) (.cells #[.string t, .bool b'] 56) (.cells #[.string ⟨#[]⟩, .bool false] 56)
  generalize ((w.alloc (.cells #[.string s, .bool b] 56)).alloc (.cells #[.string t, .bool b'] 56)).alloc (.cells #[.string ⟨#[]⟩, .bool false] 56) = w0 at *
  have hl0 := X1.lt
  have hl1 := X2.lt
  have hl2 := X3.lt
  obtain ⟨p1, p2, p3, p4⟩ := (X1).two
  obtain ⟨q1, q2, q3, q4⟩ := (X2).two
  obtain ⟨r1, r2, r3, r4⟩ := (X3).two
  refine (c1.out _).mono ?_
  rintro e w1 ⟨rfl, hb⟩
  obtain ⟨p'1, p'2, p'3, p'4⟩ := (X1.later hb).two
  obtain ⟨q'1, q'2, q'3, q'4⟩ := (X2.later hb).two
  obtain ⟨r'1, r'2, r'3, r'4⟩ := (X3.later hb).two
  clear p1 p2 p3 p4 q1 q2 q3 q4 r1 r2 r3 r4
  go_wp2_with fail
  refine (c2.out _).mono ?_
  rintro e w2 ⟨rfl, hb2⟩
  have Y1 := (X1.later hb).later hb2
  have Y3 := (X3.later hb).later hb2
  obtain ⟨py1, py2, py3, py4⟩ := (Y1).two
  obtain ⟨qy1, qy2, qy3, qy4⟩ := (Y3).two
  clear p'1 p'2 p'3 p'4 q'1 q'2 q'3 q'4 r'1 r'2 r'3 r'4
  go_wp2
  exact bodyPost_ret (v := .agg #[.string (nstr (sval s - sval t)), .bool b]) (by simp [results, Tryd.results44, go_sem, (Y3.set2 _ _).cel]) rfl ⟨rfl, st2 (nxt (nxt hB hb) hb2) (Nat.le_add_right _ 2) _ _⟩

set_option maxRecDepth 100000 in
set_option maxHeartbeats 400000 in
theorem plus_lt (s t : ByteArray) (b b' : Bool) (w : World) (hs : s.size ≤ 1073741824) (ht : t.size ≤ 1073741824) (hbb : (b == b') = false) (hst : sval s < sval t) :
    Calls Tryd.prog 44 #[.agg #[.string s, .bool b], .agg #[.string t, .bool b']] w fun e w' => e = .returned (.agg #[.string (nstr (sval t - sval s)), .bool b']) ∧ Below w.heap.size w w' := by
  have c1 := Lib.hid (fun W => wcmp_any s t W (by omega) (by omega))
  have c2 := Lib.hid (fun W => nSub_any t s W (by omega) (by omega))
  have h0 : cmpI (sval s) (sval t) < 0 := cmpI_lt.2 hst
  rw [if_neg (by omega)] at c2
  clear hst
  go_enter Tryd.func44, Tryd.ntmps44
  go_wp2_with fail
  have X1 := ((Bx.new w 56 #[.string s, .bool b]).alloc (.cells #[.string t, .bool b'] 56)).alloc (.cells #[.string ⟨#[]⟩, .bool false] 56)
  have X2 := (Bx.at1 w (.cells #[.string s, .bool b] 56) 56 #[.string t, .bool b']).alloc (.cells #[.string ⟨#[]⟩, .bool false] 56)
  have X3 := Bx.at2 w (.cells #[.string s, .bool b] 56) (.cells #[.string t, .bool b'] 56) 56 #[.string ⟨#[]⟩, .bool false]
  have hB := b3 w (.cells #[.string s, .bool b] 56) (.cells #[.string t, .bool b'] 56) (.cells #[.string ⟨#[]⟩, .bool false] 56)
  generalize ((w.alloc (.cells #[.string s, .bool b] 56)).alloc (.cells #[.string t, .bool b'] 56)).alloc (.cells #[.string ⟨#[]⟩, .bool false] 56) = w0 at *
  have hl0 := X1.lt
  have hl1 := X2.lt
  have hl2 := X3.lt
  obtain ⟨p1, p2, p3, p4⟩ := (X1).two
  obtain ⟨q1, q2, q3, q4⟩ := (X2).two
  obtain ⟨r1, r2, r3, r4⟩ := (X3).two
  refine (c1.out _).mono ?_
  rintro e w1 ⟨rfl, hb⟩
  obtain ⟨p'1, p'2, p'3, p'4⟩ := (X1.later hb).two
  obtain ⟨q'1, q'2, q'3, q'4⟩ := (X2.later hb).two
  obtain ⟨r'1, r'2, r'3, r'4⟩ := (X3.later hb).two
  clear p1 p2 p3 p4 q1 q2 q3 q4 r1 r2 r3 r4
  go_wp2_with fail
  have Z1 := (X1.later hb).set2 (.string t) (.bool b')
  have Z1' := (Z1.far (p := ⟨w.heap.size + 1, 0, none⟩) (by simp) (.string s)).far (p := ⟨w.heap.size + 1, 1, none⟩) (by simp) (.bool b)
  have Z3 := ((((X3.later hb).far (p := ⟨w.heap.size, 0, none⟩) (by simp) (.string t)).far (p := ⟨w.heap.size, 1, none⟩) (by simp) (.bool b')).far (p := ⟨w.heap.size + 1, 0, none⟩) (by simp) (.string s)).far (p := ⟨w.heap.size + 1, 1, none⟩) (by simp) (.bool b)
  have hB1 := st2 (st2 (nxt hB hb) (Nat.le_refl _) (.string t) (.bool b')) (Nat.le_add_right w.heap.size 1) (.string s) (.bool b)
  refine (c2.out _).mono ?_
  rintro e w2 ⟨rfl, hb2⟩
  have Y1 := Z1'.later hb2
  have Y3 := Z3.later hb2
  obtain ⟨py1, py2, py3, py4⟩ := (Y1).two
  obtain ⟨qy1, qy2, qy3, qy4⟩ := (Y3).two
  clear p'1 p'2 p'3 p'4 q'1 q'2 q'3 q'4 r'1 r'2 r'3 r'4
  go_wp2
  exact bodyPost_ret (v := .agg #[.string (nstr (sval t - sval s)), .bool b']) (by simp [results, Tryd.results44, go_sem, (Y3.set2 _ _).cel]) rfl ⟨rfl, st2 (nxt (hB1) hb2) (Nat.le_add_right _ 2) _ _⟩

theorem ival_sum (b b' : Bool) (u v : Nat) : (b = b' → ival b u + ival b' v = ival b (u + v)) ∧ ((b == b') = false → v ≤ u → ival b u + ival b' v = ival b (u - v)) ∧ ((b == b') = false → u < v → ival b u + ival b' v = ival b' (v - u)) := by
  cases b <;> cases b' <;> simp [ival] <;> omega
theorem wPlus_any (s t : ByteArray) (b b' : Bool) (w : World) (hs : s.size ≤ 1073741824) (ht : t.size ≤ 1073741824) :
    Calls Tryd.prog 44 #[.agg #[.string s, .bool b], .agg #[.string t, .bool b']] w fun e w' => ∃ c, e = .returned (.agg #[.string (mag (ival b (sval s) + ival b' (sval t))), .bool c]) ∧ ival c (ival b (sval s) + ival b' (sval t)).natAbs = ival b (sval s) + ival b' (sval t) ∧ Below w.heap.size w w' := by
  obtain ⟨h1, h2, h3⟩ := ival_sum b b' (sval s) (sval t)
  cases hbb : (b == b')
  · rcases Nat.lt_or_ge (sval s) (sval t) with hst | hst
    · rw [h3 hbb hst]
      exact (plus_lt s t b b' w hs ht hbb hst).mono fun e w' ⟨he, hb⟩ => ⟨b', by rw [he, mag_ival], by rw [ival_natAbs], hb⟩
    · rw [h2 hbb hst]
      exact (plus_ge s t b b' w hs ht hbb hst).mono fun e w' ⟨he, hb⟩ => ⟨b, by rw [he, mag_ival], by rw [ival_natAbs], hb⟩
  · have e : b = b' := by simpa using hbb
    subst e
    rw [h1 rfl]
    exact (plus_same s t b w hs ht).mono fun e w' ⟨he, hb⟩ => ⟨b, by rw [he, mag_ival], by rw [ival_natAbs], hb⟩

set_option maxRecDepth 100000 in
set_option maxHeartbeats 400000 in
theorem times_any (s t : ByteArray) (b b' : Bool) (w : World) (hs : s.size ≤ 1073741824) (ht : t.size ≤ 1073741824) :
    Calls Tryd.prog 48 #[.agg #[.string s, .bool b], .agg #[.string t, .bool b']] w fun e w' => e = .returned (.agg #[.string (nstr (sval s * sval t)), .bool (b != b')]) ∧ Below w.heap.size w w' := by
  have c1 := Lib.hid (fun W => nMul_any s t W (by omega) (by omega))
  go_enter Tryd.func48, Tryd.ntmps48
  go_wp2_with fail
  have X1 := ((Bx.new w 56 #[.string s, .bool b]).alloc (.cells #[.string t, .bool b'] 56)).alloc (.cells #[.string ⟨#[]⟩, .bool false] 56)
  have X2 := (Bx.at1 w (.cells #[.string s, .bool b] 56) 56 #[.string t, .bool b']).alloc (.cells #[.string ⟨#[]⟩, .bool false] 56)
  have X3 := Bx.at2 w (.cells #[.string s, .bool b] 56) (.cells #[.string t, .bool b'] 56) 56 #[.string ⟨#[]⟩, .bool false]
  have hB := b3 w (.cells #[.string s, .bool b] 56) (.cells #[.string t, .bool b'] 56) (.cells #[.string ⟨#[]⟩, .bool false] 56)
  generalize ((w.alloc (.cells #[.string s, .bool b] 56)).alloc (.cells #[.string t, .bool b'] 56)).alloc (.cells #[.string ⟨#[]⟩, .bool false] 56) = w0 at *
  have hl0 := X1.lt
  have hl1 := X2.lt
  have hl2 := X3.lt
  obtain ⟨p1, p2, p3, p4⟩ := (X1).two
  obtain ⟨q1, q2, q3, q4⟩ := (X2).two
  obtain ⟨r1, r2, r3, r4⟩ := (X3).two
  go_region_held3 (fun w' => w'.cell? ⟨w.heap.size, 0, none⟩ = some (.string s) ∧ w'.cell? ⟨w.heap.size, 1, none⟩ = some (.bool b) ∧ w'.cell? ⟨w.heap.size + 1, 0, none⟩ = some (.string t) ∧ w'.cell? ⟨w.heap.size + 1, 1, none⟩ = some (.bool b')) ((repeat' apply And.intro) <;> (first | assumption | exact cell_later hb (by assumption) | exact cell_far2 (cell_later hb (by assumption)) (by omega) _ _ | exact cell_far2 (by assumption) (by omega) _ _ | go_keep))
    (first | (go_at_call 73; refine (c1.out w0.drew).mono ?_; rintro e wn ⟨rfl, hb'⟩; have hb := undrew hb'; clear hb'; obtain ⟨s1, s2, s3, s4⟩ := (X3.later hb).two))
  go_wp2
  exact bodyPost_ret (v := .agg #[.string (nstr (sval s * sval t)), .bool (b != b')]) (by simp [results, Tryd.results48, go_sem, ((X3.later hb).set2 _ _).cel]; cases b <;> cases b' <;> rfl) rfl ⟨rfl, st2 (nxt hB hb) (Nat.le_add_right _ 2) _ _⟩
theorem ival_pro (b b' : Bool) (u v : Nat) : ival b u * ival b' v = ival (b != b') (u * v) := by
  cases b <;> cases b' <;> simp only [ival, bne_self_eq_false, Bool.false_eq_true, if_false, if_true, Int.neg_mul, Int.mul_neg, Int.natCast_mul, Int.neg_neg, show (false != true) = true from rfl, show (true != false) = true from rfl]
theorem wTimes_any (s t : ByteArray) (b b' : Bool) (w : World) (hs : s.size ≤ 1073741824) (ht : t.size ≤ 1073741824) :
    Calls Tryd.prog 48 #[.agg #[.string s, .bool b], .agg #[.string t, .bool b']] w fun e w' => ∃ c, e = .returned (.agg #[.string (mag (ival b (sval s) * ival b' (sval t))), .bool c]) ∧ ival c (ival b (sval s) * ival b' (sval t)).natAbs = ival b (sval s) * ival b' (sval t) ∧ Below w.heap.size w w' := by
  rw [ival_pro]
  exact (times_any s t b b' w hs ht).mono fun e w' ⟨he, hb⟩ => ⟨b != b', by rw [he, mag_ival], by rw [ival_natAbs], hb⟩
end Go.Proofs.YtmnmfidcldmhdaaDoor
