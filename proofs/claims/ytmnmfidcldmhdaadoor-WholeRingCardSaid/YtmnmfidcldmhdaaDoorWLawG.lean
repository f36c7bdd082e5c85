/- The walk of ogeelaw02.WholeRing: it answers true. -/
import Derived.Test.YtmnmfidcldmhdaaDoorNum
namespace Go.Proofs.YtmnmfidcldmhdaaDoor
open Go.RowKit

set_option maxRecDepth 100000 in
set_option maxHeartbeats 2000000 in
theorem wholeRing_main (s1 s2 s3 : ByteArray) (a1 a2 a3 : Bool) (x y z : Int) (w : World) (n1 : Num a1 s1 x) (n2 : Num a2 s2 y) (n3 : Num a3 s3 z) (hx : bsz x ≤ 200) (hy : bsz y ≤ 200) (hz : bsz z ≤ 200)
    (HA : Hid (∀ W : World, Below w.heap.size w W → Calls Tryd.prog 14 #[] W fun e w' => e = .returned (.bool true) ∧ Below W.heap.size W w'))
    (cl : Hid (∀ W : World, Calls Tryd.prog 13 #[.int .i64 200, .slice (some ⟨W.heap.size, 0, none⟩) 3 3] (W.alloc (.cells #[.bool a1, .string s1, .bool a2, .string s2, .bool a3, .string s3] 26)) fun e w' => e = .returned (.bool false) ∧ W.alloc (.cells #[.bool a1, .string s1, .bool a2, .string s2, .bool a3, .string s3] 26) = w')) :
    Calls Tryd.prog 7 #[.agg #[.bool a1, .string s1], .agg #[.bool a2, .string s2], .agg #[.bool a3, .string s3]] w fun e w' => e = .returned (.bool true) ∧ Below w.heap.size w w' := by
  have nS : Num (neg (x + y)) (mag (x + y)) (x + y) := num_mk (bsz_add_le hx hy) (by decide)
  have nP : Num (neg (x * y)) (mag (x * y)) (x * y) := num_mk (bsz_mul_le hx hy) (by decide)
  have nYZ : Num (neg (y * z)) (mag (y * z)) (y * z) := num_mk (bsz_mul_le hy hz) (by decide)
  have nXZ : Num (neg (x * z)) (mag (x * z)) (x * z) := num_mk (bsz_mul_le hx hz) (by decide)
  have nX : Num (neg (-x)) (mag (-x)) (-x) := num_mk (by rw [bsz_neg]; exact hx) (by decide)
  have NS := Lib.hid (And.intro nS (And.intro nP (And.intro nYZ (And.intro nXZ (And.intro nX (And.intro n1 (And.intro n2 n3)))))))
  clear hx hy hz nS nP nYZ nXZ nX n1 n2 n3
  go_enter Tryd.func7, Tryd.ntmps7
  go_upto_region 1 with (fail)
  have X1 := ((Bx.new w 26 #[.bool a1, .string s1]).alloc (.cells #[.bool a2, .string s2] 26)).alloc (.cells #[.bool a3, .string s3] 26)
  have X2 := (Bx.at1 w (.cells #[.bool a1, .string s1] 26) 26 #[.bool a2, .string s2]).alloc (.cells #[.bool a3, .string s3] 26)
  have X3 := Bx.at2 w (.cells #[.bool a1, .string s1] 26) (.cells #[.bool a2, .string s2] 26) 26 #[.bool a3, .string s3]
  have hB := b3 w (.cells #[.bool a1, .string s1] 26) (.cells #[.bool a2, .string s2] 26) (.cells #[.bool a3, .string s3] 26)
  generalize ((w.alloc (.cells #[.bool a1, .string s1] 26)).alloc (.cells #[.bool a2, .string s2] 26)).alloc (.cells #[.bool a3, .string s3] 26) = w0 at *
  have hl0 := X1.lt
  have hl1 := X2.lt
  have hl2 := X3.lt
  obtain ⟨p1, p2, _, _⟩ := X1.two
  obtain ⟨q1, q2, _, _⟩ := X2.two
  obtain ⟨r1, r2, _, _⟩ := X3.two
  go_wp2_with fail
  refine (cl.out w0).mono ?_
  rintro e w1 ⟨rfl, rfl⟩
  replace hB := nxtA hB (.cells #[.bool a1, .string s1, .bool a2, .string s2, .bool a3, .string s3] 26)
  replace X1 := X1.alloc (.cells #[.bool a1, .string s1, .bool a2, .string s2, .bool a3, .string s3] 26)
  replace X2 := X2.alloc (.cells #[.bool a1, .string s1, .bool a2, .string s2, .bool a3, .string s3] 26)
  replace X3 := X3.alloc (.cells #[.bool a1, .string s1, .bool a2, .string s2, .bool a3, .string s3] 26)
  clear p1 p2 q1 q2 r1 r2
  generalize w0.alloc (.cells #[.bool a1, .string s1, .bool a2, .string s2, .bool a3, .string s3] 26) = w1 at *
  obtain ⟨p1, p2, _, _⟩ := X1.two
  obtain ⟨q1, q2, _, _⟩ := X2.two
  obtain ⟨r1, r2, _, _⟩ := X3.two
  have l1 := X1.lt
  have l2 := X2.lt
  have l3 := X3.lt
  go_upto_region 3 with (fail)
  obtain ⟨nS, nP, nYZ, nXZ, nX, n1, n2, n3⟩ := NS.out
  refine wp_region_know [15, 16, 17, 18, 19, 20, 21, 22, 7, 8] (fun W => Below w1.heap.size w1 W) (kAt [eqK (.agg #[.bool a1, .string s1]), eqK (.agg #[.bool a2, .string s2]), sliK w1.heap.size 26 2 #[.bool a1, .string s1, .bool a2, .string s2], eqK (.agg #[.bool (neg (x + y)), .string (mag (x + y))]), eqK (.agg #[.bool a1, .string s1]), eqK (.agg #[.bool a2, .string s2]), sliK w1.heap.size 26 2 #[.bool a1, .string s1, .bool a2, .string s2], eqK (.agg #[.bool (neg (x * y)), .string (mag (x * y))]), ptrK w1.heap.size 26 #[.bool false, .string ⟨#[]⟩], ptrK w1.heap.size 26 #[.bool false, .string ⟨#[]⟩]])
    (fun _ => true) (fun i => i == 2 || i == 6 || i == 8 || i == 9) (by kernel_rfl) (by kernel_rfl) (fun _ _ _ _ _ h => h) (by kernel_rfl) (by kernel_rfl) 122 rfl (by kernel_rfl) (by kernel_rfl) ?hG (fun i v w w' hi => kAt_stab (by exact ⟨stab_eq _, stab_eq _, stab_sli _ _ _ _, stab_eq _, stab_eq _, stab_eq _, stab_sli _ _ _ _, stab_eq _, stab_ptr _ _ _, stab_ptr _ _ _, trivial⟩) _ i v w w' hi) (fun i v w hi hf h => kAt_fresh (k := 0) (fr := fun i => i == 2 || i == 6 || i == 8 || i == 9) (by exact ⟨fun h => absurd h (by decide), fun h => absurd h (by decide), fun _ => fresh_sli, fun h => absurd h (by decide), fun h => absurd h (by decide), fun h => absurd h (by decide), fun _ => fresh_sli, fun h => absurd h (by decide), fun _ => fresh_ptr, fun _ => fresh_ptr, trivial⟩) i v w hi (by rw [Nat.zero_add]; exact hf) h) ?hop ?hlate ?htail
  case hG => exact (Below.refl _ _).drew
  case hop =>
    intro A hA
    have hN : A.tmps.size = 122 := by rw [hA]; rfl
    have q3 : A.tmps.getD 3 undef = .pointer (some ⟨w.heap.size, 0, none⟩) := by rw [hA]; rfl
    have q4 : A.tmps.getD 4 undef = .pointer (some ⟨w.heap.size + 1, 0, none⟩) := by rw [hA]; rfl
    clear hA
    refine ⟨?_, ?_, ?_, ?_, ?_, ?_, ?_, ?_, ?_, ?_, trivial⟩
    · intro u W hG hf
      have e3 := frm_base (ds := [15, 16, 17, 18, 19, 20, 21, 22, 7, 8]) (u := u) (k := 3) (by rw [hN]; decide) rfl q3
      generalize (frm A [15, 16, 17, 18, 19, 20, 21, 22, 7, 8] u).eval = ev at *
      have hx := X1.later hG
      have y0 := hx.cel 0
      have y1 := hx.cel 1
      simp at y0 y1
      refine k_val (.agg #[.bool a1, .string s1]) rfl rfl hG ?_ rfl
      simp [go_sem, e3, y0, y1]
    · intro u W hG hf
      have e4 := frm_base (ds := [15, 16, 17, 18, 19, 20, 21, 22, 7, 8]) (u := u) (k := 4) (by rw [hN]; decide) rfl q4
      generalize (frm A [15, 16, 17, 18, 19, 20, 21, 22, 7, 8] u).eval = ev at *
      have hx := X2.later hG
      have y0 := hx.cel 0
      have y1 := hx.cel 1
      simp at y0 y1
      refine k_val (.agg #[.bool a2, .string s2]) rfl rfl hG ?_ rfl
      simp [go_sem, e4, y0, y1]
    · intro u W hG hf
      have f15 : u 0 = .agg #[.bool a1, .string s1] := hf 0 (by decide)
      have e15 := frm_head (ds := [15, 16, 17, 18, 19, 20, 21, 22, 7, 8]) (u := u) (k := 15) (i := 0) (by rw [hN]; decide) rfl f15
      have f16 : u 1 = .agg #[.bool a2, .string s2] := hf 1 (by decide)
      have e16 := frm_head (ds := [15, 16, 17, 18, 19, 20, 21, 22, 7, 8]) (u := u) (k := 16) (i := 1) (by rw [hN]; decide) rfl f16
      generalize (frm A [15, 16, 17, 18, 19, 20, 21, 22, 7, 8] u).eval = ev at *
      refine k_new (.slice (some ⟨W.heap.size, 0, none⟩) 2 2) (.cells #[.bool a1, .string s1, .bool a2, .string s2] 26) rfl ?_ (nxtA hG _) ⟨_, rfl, below_le hG, Bx.new _ _ _⟩ rfl
      simp [go_sem, e15, e16]
    · intro u W hG hf
      obtain ⟨g17, f17, hb17, hx17⟩ : sliK w1.heap.size 26 2 #[.bool a1, .string s1, .bool a2, .string s2] (u 2) W := hf 2 (by decide)
      have e17 := frm_head (ds := [15, 16, 17, 18, 19, 20, 21, 22, 7, 8]) (u := u) (k := 17) (i := 2) (by rw [hN]; decide) rfl f17
      have ef : ∀ f, (frm A [15, 16, 17, 18, 19, 20, 21, 22, 7, 8] u).eval (.func f) = .func (.func f) #[] #[] := fun _ => rfl
      generalize (frm A [15, 16, 17, 18, 19, 20, 21, 22, 7, 8] u).eval = ev at *
      exact k_call _ _ rfl rfl (by simp [go_sem, ef, e17]) (wAdd2N n1 n2 (rfl) hx17) (fun w' hb => nxt hG hb) (fun _ _ => rfl)
    · intro u W hG hf
      have e3 := frm_base (ds := [15, 16, 17, 18, 19, 20, 21, 22, 7, 8]) (u := u) (k := 3) (by rw [hN]; decide) rfl q3
      generalize (frm A [15, 16, 17, 18, 19, 20, 21, 22, 7, 8] u).eval = ev at *
      have hx := X1.later hG
      have y0 := hx.cel 0
      have y1 := hx.cel 1
      simp at y0 y1
      refine k_val (.agg #[.bool a1, .string s1]) rfl rfl hG ?_ rfl
      simp [go_sem, e3, y0, y1]
    · intro u W hG hf
      have e4 := frm_base (ds := [15, 16, 17, 18, 19, 20, 21, 22, 7, 8]) (u := u) (k := 4) (by rw [hN]; decide) rfl q4
      generalize (frm A [15, 16, 17, 18, 19, 20, 21, 22, 7, 8] u).eval = ev at *
      have hx := X2.later hG
      have y0 := hx.cel 0
      have y1 := hx.cel 1
      simp at y0 y1
      refine k_val (.agg #[.bool a2, .string s2]) rfl rfl hG ?_ rfl
      simp [go_sem, e4, y0, y1]
    · intro u W hG hf
      have f19 : u 4 = .agg #[.bool a1, .string s1] := hf 4 (by decide)
      have e19 := frm_head (ds := [15, 16, 17, 18, 19, 20, 21, 22, 7, 8]) (u := u) (k := 19) (i := 4) (by rw [hN]; decide) rfl f19
      have f20 : u 5 = .agg #[.bool a2, .string s2] := hf 5 (by decide)
      have e20 := frm_head (ds := [15, 16, 17, 18, 19, 20, 21, 22, 7, 8]) (u := u) (k := 20) (i := 5) (by rw [hN]; decide) rfl f20
      generalize (frm A [15, 16, 17, 18, 19, 20, 21, 22, 7, 8] u).eval = ev at *
      refine k_new (.slice (some ⟨W.heap.size, 0, none⟩) 2 2) (.cells #[.bool a1, .string s1, .bool a2, .string s2] 26) rfl ?_ (nxtA hG _) ⟨_, rfl, below_le hG, Bx.new _ _ _⟩ rfl
      simp [go_sem, e19, e20]
    · intro u W hG hf
      obtain ⟨g21, f21, hb21, hx21⟩ : sliK w1.heap.size 26 2 #[.bool a1, .string s1, .bool a2, .string s2] (u 6) W := hf 6 (by decide)
      have e21 := frm_head (ds := [15, 16, 17, 18, 19, 20, 21, 22, 7, 8]) (u := u) (k := 21) (i := 6) (by rw [hN]; decide) rfl f21
      have ef : ∀ f, (frm A [15, 16, 17, 18, 19, 20, 21, 22, 7, 8] u).eval (.func f) = .func (.func f) #[] #[] := fun _ => rfl
      generalize (frm A [15, 16, 17, 18, 19, 20, 21, 22, 7, 8] u).eval = ev at *
      exact k_call _ _ rfl rfl (by simp [go_sem, ef, e21]) (wMul2N n1 n2 (rfl) hx21) (fun w' hb => nxt hG hb) (fun _ _ => rfl)
    · intro u W hG hf
      generalize (frm A [15, 16, 17, 18, 19, 20, 21, 22, 7, 8] u).eval = ev at *
      refine k_new (.pointer (some ⟨W.heap.size, 0, none⟩)) (.cells #[.bool false, .string ⟨#[]⟩] 26) rfl ?_ (nxtA hG _) ⟨_, rfl, below_le hG, Bx.new _ _ _⟩ rfl
      simp [go_sem]
    · intro u W hG hf
      generalize (frm A [15, 16, 17, 18, 19, 20, 21, 22, 7, 8] u).eval = ev at *
      refine k_new (.pointer (some ⟨W.heap.size, 0, none⟩)) (.cells #[.bool false, .string ⟨#[]⟩] 26) rfl ?_ (nxtA hG _) ⟨_, rfl, below_le hG, Bx.new _ _ _⟩ rfl
      simp [go_sem]
  case hlate =>
    intro A _
    exact ⟨trivial, trivial, trivial, trivial, trivial, trivial, trivial, trivial, trivial, trivial, trivial⟩
  case htail =>
    intro u w' hG hP hD
    have f18 : u 3 = .agg #[.bool (neg (x + y)), .string (mag (x + y))] := hP 3 (by decide)
    have f22 : u 7 = .agg #[.bool (neg (x * y)), .string (mag (x * y))] := hP 7 (by decide)
    obtain ⟨g7, f7, hb7, hx7⟩ : ptrK w1.heap.size 26 #[.bool false, .string ⟨#[]⟩] (u 8) w' := hP 8 (by decide)
    obtain ⟨g8, f8, hb8, hx8⟩ : ptrK w1.heap.size 26 #[.bool false, .string ⟨#[]⟩] (u 9) w' := hP 9 (by decide)
    have hne : g7 ≠ g8 := fun e => hD 8 9 (by decide) (by decide) rfl rfl (by decide) (by rw [f7, f8, e])
    simp only [putAll, Act.put, List.setIfInBounds_toArray, List.set_cons_zero, List.set_cons_succ, List.length_cons, List.length_nil, Nat.reduceAdd, List.drop_succ_cons, List.drop_zero, f18, f22, f7, f8]
    have Y8 := Bx.far2 (i := 0) (j := 1) hx8 (Ne.symm hne) (.bool (neg (x + y))) (.string (mag (x + y)))
    have Z7 := Bx.far2 (i := 0) (j := 1) (hx7.set2 (.bool (neg (x + y))) (.string (mag (x + y)))) hne (.bool (neg (x * y))) (.string (mag (x * y)))
    have Z8 := Y8.set2 (.bool (neg (x * y))) (.string (mag (x * y)))
    have Z1 := Bx.far2 (i := 0) (j := 1) (Bx.far2 (i := 0) (j := 1) (X1.later hG) (Nat.ne_of_lt (Nat.lt_of_lt_of_le l1 hb7)) (.bool (neg (x + y))) (.string (mag (x + y)))) (Nat.ne_of_lt (Nat.lt_of_lt_of_le l1 hb8)) (.bool (neg (x * y))) (.string (mag (x * y)))
    have Z2 := Bx.far2 (i := 0) (j := 1) (Bx.far2 (i := 0) (j := 1) (X2.later hG) (Nat.ne_of_lt (Nat.lt_of_lt_of_le l2 hb7)) (.bool (neg (x + y))) (.string (mag (x + y)))) (Nat.ne_of_lt (Nat.lt_of_lt_of_le l2 hb8)) (.bool (neg (x * y))) (.string (mag (x * y)))
    have Z3 := Bx.far2 (i := 0) (j := 1) (Bx.far2 (i := 0) (j := 1) (X3.later hG) (Nat.ne_of_lt (Nat.lt_of_lt_of_le l3 hb7)) (.bool (neg (x + y))) (.string (mag (x + y)))) (Nat.ne_of_lt (Nat.lt_of_lt_of_le l3 hb8)) (.bool (neg (x * y))) (.string (mag (x * y)))
    have hB2 := st2 (st2 (nxt hB hG) (Nat.le_trans hB.size hb7) (.bool (neg (x + y))) (.string (mag (x + y)))) (Nat.le_trans hB.size hb8) (.bool (neg (x * y))) (.string (mag (x * y)))
    obtain ⟨t1, t2, t3, t4⟩ := Y8.two
    obtain ⟨v1, v2, v3, v4⟩ := hx7.two
    have HK := Lib.hid (And.intro Z7 (And.intro Z8 (And.intro Z1 (And.intro Z2 (And.intro Z3 hB2)))))
    clear f18 f22 f7 f8 hP hD hG hB hb7 hb8 hx7 hx8 hne Y8 Z7 Z8 Z1 Z2 Z3 hB2 X1 X2 X3 l1 l2 l3 nS nP nYZ nXZ nX n1 n2 n3 p1 p2 q1 q2 r1 r2
    go_upto_region 4 with (fail)
    obtain ⟨Z7, Z8, Z1, Z2, Z3, hB⟩ := HK.out
    clear HK t1 t2 t3 t4 v1 v2 v3 v4
    generalize (((w'.setCell ⟨g7, 0, none⟩ (.bool (neg (x + y)))).setCell ⟨g7, 1, none⟩ (.string (mag (x + y)))).setCell ⟨g8, 0, none⟩ (.bool (neg (x * y)))).setCell ⟨g8, 1, none⟩ (.string (mag (x * y))) = w2 at *
    obtain ⟨nS, nP, nYZ, nXZ, nX, n1, n2, n3⟩ := NS.out
    refine wp_region_know [23, 24, 25, 26, 27, 28, 29, 30, 31, 32, 33, 34, 35, 36, 37, 38, 39, 40, 41, 42, 43, 44, 45, 46, 47, 48, 49, 50, 51, 52, 53, 54, 55, 56, 57, 58, 59, 60, 61, 62, 63, 64, 65, 66, 67, 68, 69, 70, 71, 72, 73, 74] (fun W => Below w2.heap.size w2 W) (kAt [eqK (.agg #[.bool (neg (x + y)), .string (mag (x + y))]), eqK (.agg #[.bool a2, .string s2]), eqK (.agg #[.bool a1, .string s1]), sliK w2.heap.size 26 2 #[.bool a2, .string s2, .bool a1, .string s1], eqK (.agg #[.bool (neg (x + y)), .string (mag (x + y))]), eqK (.bool false), eqK (.bool false), eqK (.agg #[.bool (neg (x * y)), .string (mag (x * y))]), eqK (.agg #[.bool a2, .string s2]), eqK (.agg #[.bool a1, .string s1]), sliK w2.heap.size 26 2 #[.bool a2, .string s2, .bool a1, .string s1], eqK (.agg #[.bool (neg (x * y)), .string (mag (x * y))]), eqK (.bool false), eqK (.bool false), eqK (.bool false), eqK (.agg #[.bool (neg (x + y)), .string (mag (x + y))]), eqK (.agg #[.bool a3, .string s3]), sliK w2.heap.size 26 2 #[.bool (neg (x + y)), .string (mag (x + y)), .bool a3, .string s3], eqK (.agg #[.bool (neg (x + y + z)), .string (mag (x + y + z))]), eqK (.agg #[.bool a1, .string s1]), eqK (.agg #[.bool a2, .string s2]), eqK (.agg #[.bool a3, .string s3]), sliK w2.heap.size 26 3 #[.bool a1, .string s1, .bool a2, .string s2, .bool a3, .string s3], eqK (.agg #[.bool (neg (x + y + z)), .string (mag (x + y + z))]), eqK (.bool false), eqK (.bool false), eqK (.bool false), eqK (.agg #[.bool (neg (x * y)), .string (mag (x * y))]), eqK (.agg #[.bool a3, .string s3]), sliK w2.heap.size 26 2 #[.bool (neg (x * y)), .string (mag (x * y)), .bool a3, .string s3], eqK (.agg #[.bool (neg (x * y * z)), .string (mag (x * y * z))]), eqK (.agg #[.bool a1, .string s1]), eqK (.agg #[.bool a2, .string s2]), eqK (.agg #[.bool a3, .string s3]), sliK w2.heap.size 26 3 #[.bool a1, .string s1, .bool a2, .string s2, .bool a3, .string s3], eqK (.agg #[.bool (neg (x * y * z)), .string (mag (x * y * z))]), eqK (.bool false), eqK (.bool false), eqK (.bool false), eqK (.agg #[.bool a1, .string s1]), eqK (.agg #[.bool a2, .string s2]), eqK (.agg #[.bool a3, .string s3]), sliK w2.heap.size 26 2 #[.bool a2, .string s2, .bool a3, .string s3], eqK (.agg #[.bool (neg (y * z)), .string (mag (y * z))]), sliK w2.heap.size 26 2 #[.bool a1, .string s1, .bool (neg (y * z)), .string (mag (y * z))], eqK (.agg #[.bool (neg (x * y * z)), .string (mag (x * y * z))]), eqK (.agg #[.bool (neg (x * y)), .string (mag (x * y))]), eqK (.agg #[.bool a3, .string s3]), sliK w2.heap.size 26 2 #[.bool (neg (x * y)), .string (mag (x * y)), .bool a3, .string s3], eqK (.agg #[.bool (neg (x * y * z)), .string (mag (x * y * z))]), eqK (.bool false), eqK (.bool false)])
      (fun _ => true) (fun i => i == 3 || i == 10 || i == 17 || i == 22 || i == 29 || i == 34 || i == 42 || i == 44 || i == 48) (by kernel_rfl) (by kernel_rfl) (fun _ _ _ _ _ h => h) (by kernel_rfl) (by kernel_rfl) 122 rfl (by kernel_rfl) (by kernel_rfl) ?hG (fun i v w w' hi => kAt_stab (by exact ⟨stab_eq _, stab_eq _, stab_eq _, stab_sli _ _ _ _, stab_eq _, stab_eq _, stab_eq _, stab_eq _, stab_eq _, stab_eq _, stab_sli _ _ _ _, stab_eq _, stab_eq _, stab_eq _, stab_eq _, stab_eq _, stab_eq _, stab_sli _ _ _ _, stab_eq _, stab_eq _, stab_eq _, stab_eq _, stab_sli _ _ _ _, stab_eq _, stab_eq _, stab_eq _, stab_eq _, stab_eq _, stab_eq _, stab_sli _ _ _ _, stab_eq _, stab_eq _, stab_eq _, stab_eq _, stab_sli _ _ _ _, stab_eq _, stab_eq _, stab_eq _, stab_eq _, stab_eq _, stab_eq _, stab_eq _, stab_sli _ _ _ _, stab_eq _, stab_sli _ _ _ _, stab_eq _, stab_eq _, stab_eq _, stab_sli _ _ _ _, stab_eq _, stab_eq _, stab_eq _, trivial⟩) _ i v w w' hi) (fun i v w hi hf h => kAt_fresh (k := 0) (fr := fun i => i == 3 || i == 10 || i == 17 || i == 22 || i == 29 || i == 34 || i == 42 || i == 44 || i == 48) (by exact ⟨fun h => absurd h (by decide), fun h => absurd h (by decide), fun h => absurd h (by decide), fun _ => fresh_sli, fun h => absurd h (by decide), fun h => absurd h (by decide), fun h => absurd h (by decide), fun h => absurd h (by decide), fun h => absurd h (by decide), fun h => absurd h (by decide), fun _ => fresh_sli, fun h => absurd h (by decide), fun h => absurd h (by decide), fun h => absurd h (by decide), fun h => absurd h (by decide), fun h => absurd h (by decide), fun h => absurd h (by decide), fun _ => fresh_sli, fun h => absurd h (by decide), fun h => absurd h (by decide), fun h => absurd h (by decide), fun h => absurd h (by decide), fun _ => fresh_sli, fun h => absurd h (by decide), fun h => absurd h (by decide), fun h => absurd h (by decide), fun h => absurd h (by decide), fun h => absurd h (by decide), fun h => absurd h (by decide), fun _ => fresh_sli, fun h => absurd h (by decide), fun h => absurd h (by decide), fun h => absurd h (by decide), fun h => absurd h (by decide), fun _ => fresh_sli, fun h => absurd h (by decide), fun h => absurd h (by decide), fun h => absurd h (by decide), fun h => absurd h (by decide), fun h => absurd h (by decide), fun h => absurd h (by decide), fun h => absurd h (by decide), fun _ => fresh_sli, fun h => absurd h (by decide), fun _ => fresh_sli, fun h => absurd h (by decide), fun h => absurd h (by decide), fun h => absurd h (by decide), fun _ => fresh_sli, fun h => absurd h (by decide), fun h => absurd h (by decide), fun h => absurd h (by decide), trivial⟩) i v w hi (by rw [Nat.zero_add]; exact hf) h) ?hop ?hlate ?htail
    case hG => exact (Below.refl _ _).drew
    case hop =>
      intro A hA
      have hN : A.tmps.size = 122 := by rw [hA]; rfl
      have q3 : A.tmps.getD 3 undef = .pointer (some ⟨w.heap.size, 0, none⟩) := by rw [hA]; rfl
      have q4 : A.tmps.getD 4 undef = .pointer (some ⟨w.heap.size + 1, 0, none⟩) := by rw [hA]; rfl
      have q5 : A.tmps.getD 5 undef = .pointer (some ⟨w.heap.size + 2, 0, none⟩) := by rw [hA]; rfl
      have q7 : A.tmps.getD 7 undef = .pointer (some ⟨g7, 0, none⟩) := by rw [hA]; rfl
      have q8 : A.tmps.getD 8 undef = .pointer (some ⟨g8, 0, none⟩) := by rw [hA]; rfl
      clear hA
      refine ⟨?_, ?_, ?_, ?_, ?_, ?_, ?_, ?_, ?_, ?_, ?_, ?_, ?_, ?_, ?_, ?_, ?_, ?_, ?_, ?_, ?_, ?_, ?_, ?_, ?_, ?_, ?_, ?_, ?_, ?_, ?_, ?_, ?_, ?_, ?_, ?_, ?_, ?_, ?_, ?_, ?_, ?_, ?_, ?_, ?_, ?_, ?_, ?_, ?_, ?_, ?_, ?_, trivial⟩
      · intro u W hG hf
        have e7 := frm_base (ds := [23, 24, 25, 26, 27, 28, 29, 30, 31, 32, 33, 34, 35, 36, 37, 38, 39, 40, 41, 42, 43, 44, 45, 46, 47, 48, 49, 50, 51, 52, 53, 54, 55, 56, 57, 58, 59, 60, 61, 62, 63, 64, 65, 66, 67, 68, 69, 70, 71, 72, 73, 74]) (u := u) (k := 7) (by rw [hN]; decide) rfl q7
        generalize (frm A [23, 24, 25, 26, 27, 28, 29, 30, 31, 32, 33, 34, 35, 36, 37, 38, 39, 40, 41, 42, 43, 44, 45, 46, 47, 48, 49, 50, 51, 52, 53, 54, 55, 56, 57, 58, 59, 60, 61, 62, 63, 64, 65, 66, 67, 68, 69, 70, 71, 72, 73, 74] u).eval = ev at *
        have hx := Z7.later hG
        have y0 := hx.cel 0
        have y1 := hx.cel 1
        simp at y0 y1
        refine k_val (.agg #[.bool (neg (x + y)), .string (mag (x + y))]) rfl rfl hG ?_ rfl
        simp [go_sem, e7, y0, y1]
      · intro u W hG hf
        have e4 := frm_base (ds := [23, 24, 25, 26, 27, 28, 29, 30, 31, 32, 33, 34, 35, 36, 37, 38, 39, 40, 41, 42, 43, 44, 45, 46, 47, 48, 49, 50, 51, 52, 53, 54, 55, 56, 57, 58, 59, 60, 61, 62, 63, 64, 65, 66, 67, 68, 69, 70, 71, 72, 73, 74]) (u := u) (k := 4) (by rw [hN]; decide) rfl q4
        generalize (frm A [23, 24, 25, 26, 27, 28, 29, 30, 31, 32, 33, 34, 35, 36, 37, 38, 39, 40, 41, 42, 43, 44, 45, 46, 47, 48, 49, 50, 51, 52, 53, 54, 55, 56, 57, 58, 59, 60, 61, 62, 63, 64, 65, 66, 67, 68, 69, 70, 71, 72, 73, 74] u).eval = ev at *
        have hx := Z2.later hG
        have y0 := hx.cel 0
        have y1 := hx.cel 1
        simp at y0 y1
        refine k_val (.agg #[.bool a2, .string s2]) rfl rfl hG ?_ rfl
        simp [go_sem, e4, y0, y1]
      · intro u W hG hf
        have e3 := frm_base (ds := [23, 24, 25, 26, 27, 28, 29, 30, 31, 32, 33, 34, 35, 36, 37, 38, 39, 40, 41, 42, 43, 44, 45, 46, 47, 48, 49, 50, 51, 52, 53, 54, 55, 56, 57, 58, 59, 60, 61, 62, 63, 64, 65, 66, 67, 68, 69, 70, 71, 72, 73, 74]) (u := u) (k := 3) (by rw [hN]; decide) rfl q3
        generalize (frm A [23, 24, 25, 26, 27, 28, 29, 30, 31, 32, 33, 34, 35, 36, 37, 38, 39, 40, 41, 42, 43, 44, 45, 46, 47, 48, 49, 50, 51, 52, 53, 54, 55, 56, 57, 58, 59, 60, 61, 62, 63, 64, 65, 66, 67, 68, 69, 70, 71, 72, 73, 74] u).eval = ev at *
        have hx := Z1.later hG
        have y0 := hx.cel 0
        have y1 := hx.cel 1
        simp at y0 y1
        refine k_val (.agg #[.bool a1, .string s1]) rfl rfl hG ?_ rfl
        simp [go_sem, e3, y0, y1]
      · intro u W hG hf
        have f24 : u 1 = .agg #[.bool a2, .string s2] := hf 1 (by decide)
        have e24 := frm_head (ds := [23, 24, 25, 26, 27, 28, 29, 30, 31, 32, 33, 34, 35, 36, 37, 38, 39, 40, 41, 42, 43, 44, 45, 46, 47, 48, 49, 50, 51, 52, 53, 54, 55, 56, 57, 58, 59, 60, 61, 62, 63, 64, 65, 66, 67, 68, 69, 70, 71, 72, 73, 74]) (u := u) (k := 24) (i := 1) (by rw [hN]; decide) rfl f24
        have f25 : u 2 = .agg #[.bool a1, .string s1] := hf 2 (by decide)
        have e25 := frm_head (ds := [23, 24, 25, 26, 27, 28, 29, 30, 31, 32, 33, 34, 35, 36, 37, 38, 39, 40, 41, 42, 43, 44, 45, 46, 47, 48, 49, 50, 51, 52, 53, 54, 55, 56, 57, 58, 59, 60, 61, 62, 63, 64, 65, 66, 67, 68, 69, 70, 71, 72, 73, 74]) (u := u) (k := 25) (i := 2) (by rw [hN]; decide) rfl f25
        generalize (frm A [23, 24, 25, 26, 27, 28, 29, 30, 31, 32, 33, 34, 35, 36, 37, 38, 39, 40, 41, 42, 43, 44, 45, 46, 47, 48, 49, 50, 51, 52, 53, 54, 55, 56, 57, 58, 59, 60, 61, 62, 63, 64, 65, 66, 67, 68, 69, 70, 71, 72, 73, 74] u).eval = ev at *
        refine k_new (.slice (some ⟨W.heap.size, 0, none⟩) 2 2) (.cells #[.bool a2, .string s2, .bool a1, .string s1] 26) rfl ?_ (nxtA hG _) ⟨_, rfl, below_le hG, Bx.new _ _ _⟩ rfl
        simp [go_sem, e24, e25]
      · intro u W hG hf
        obtain ⟨g26, f26, hb26, hx26⟩ : sliK w2.heap.size 26 2 #[.bool a2, .string s2, .bool a1, .string s1] (u 3) W := hf 3 (by decide)
        have e26 := frm_head (ds := [23, 24, 25, 26, 27, 28, 29, 30, 31, 32, 33, 34, 35, 36, 37, 38, 39, 40, 41, 42, 43, 44, 45, 46, 47, 48, 49, 50, 51, 52, 53, 54, 55, 56, 57, 58, 59, 60, 61, 62, 63, 64, 65, 66, 67, 68, 69, 70, 71, 72, 73, 74]) (u := u) (k := 26) (i := 3) (by rw [hN]; decide) rfl f26
        have ef : ∀ f, (frm A [23, 24, 25, 26, 27, 28, 29, 30, 31, 32, 33, 34, 35, 36, 37, 38, 39, 40, 41, 42, 43, 44, 45, 46, 47, 48, 49, 50, 51, 52, 53, 54, 55, 56, 57, 58, 59, 60, 61, 62, 63, 64, 65, 66, 67, 68, 69, 70, 71, 72, 73, 74] u).eval (.func f) = .func (.func f) #[] #[] := fun _ => rfl
        generalize (frm A [23, 24, 25, 26, 27, 28, 29, 30, 31, 32, 33, 34, 35, 36, 37, 38, 39, 40, 41, 42, 43, 44, 45, 46, 47, 48, 49, 50, 51, 52, 53, 54, 55, 56, 57, 58, 59, 60, 61, 62, 63, 64, 65, 66, 67, 68, 69, 70, 71, 72, 73, 74] u).eval = ev at *
        exact k_call _ _ rfl rfl (by simp [go_sem, ef, e26]) (wAdd2N n2 n1 (Int.add_comm y x) hx26) (fun w' hb => nxt hG hb) (fun _ _ => rfl)
      · intro u W hG hf
        have f23 : u 0 = .agg #[.bool (neg (x + y)), .string (mag (x + y))] := hf 0 (by decide)
        have e23 := frm_head (ds := [23, 24, 25, 26, 27, 28, 29, 30, 31, 32, 33, 34, 35, 36, 37, 38, 39, 40, 41, 42, 43, 44, 45, 46, 47, 48, 49, 50, 51, 52, 53, 54, 55, 56, 57, 58, 59, 60, 61, 62, 63, 64, 65, 66, 67, 68, 69, 70, 71, 72, 73, 74]) (u := u) (k := 23) (i := 0) (by rw [hN]; decide) rfl f23
        have f27 : u 4 = .agg #[.bool (neg (x + y)), .string (mag (x + y))] := hf 4 (by decide)
        have e27 := frm_head (ds := [23, 24, 25, 26, 27, 28, 29, 30, 31, 32, 33, 34, 35, 36, 37, 38, 39, 40, 41, 42, 43, 44, 45, 46, 47, 48, 49, 50, 51, 52, 53, 54, 55, 56, 57, 58, 59, 60, 61, 62, 63, 64, 65, 66, 67, 68, 69, 70, 71, 72, 73, 74]) (u := u) (k := 27) (i := 4) (by rw [hN]; decide) rfl f27
        generalize (frm A [23, 24, 25, 26, 27, 28, 29, 30, 31, 32, 33, 34, 35, 36, 37, 38, 39, 40, 41, 42, 43, 44, 45, 46, 47, 48, 49, 50, 51, 52, 53, 54, 55, 56, 57, 58, 59, 60, 61, 62, 63, 64, 65, 66, 67, 68, 69, 70, 71, 72, 73, 74] u).eval = ev at *
        refine k_val (.bool false) rfl rfl hG ?_ rfl
        simp [go_sem, e23, e27]
      · intro u W hG hf
        have f28 : u 5 = .bool false := hf 5 (by decide)
        have e28 := frm_head (ds := [23, 24, 25, 26, 27, 28, 29, 30, 31, 32, 33, 34, 35, 36, 37, 38, 39, 40, 41, 42, 43, 44, 45, 46, 47, 48, 49, 50, 51, 52, 53, 54, 55, 56, 57, 58, 59, 60, 61, 62, 63, 64, 65, 66, 67, 68, 69, 70, 71, 72, 73, 74]) (u := u) (k := 28) (i := 5) (by rw [hN]; decide) rfl f28
        generalize (frm A [23, 24, 25, 26, 27, 28, 29, 30, 31, 32, 33, 34, 35, 36, 37, 38, 39, 40, 41, 42, 43, 44, 45, 46, 47, 48, 49, 50, 51, 52, 53, 54, 55, 56, 57, 58, 59, 60, 61, 62, 63, 64, 65, 66, 67, 68, 69, 70, 71, 72, 73, 74] u).eval = ev at *
        refine k_val (.bool false) rfl rfl hG ?_ rfl
        simp [go_sem, e28]
      · intro u W hG hf
        have e8 := frm_base (ds := [23, 24, 25, 26, 27, 28, 29, 30, 31, 32, 33, 34, 35, 36, 37, 38, 39, 40, 41, 42, 43, 44, 45, 46, 47, 48, 49, 50, 51, 52, 53, 54, 55, 56, 57, 58, 59, 60, 61, 62, 63, 64, 65, 66, 67, 68, 69, 70, 71, 72, 73, 74]) (u := u) (k := 8) (by rw [hN]; decide) rfl q8
        have fg : u 6 = .bool false := hf 6 (by decide)
        generalize (frm A [23, 24, 25, 26, 27, 28, 29, 30, 31, 32, 33, 34, 35, 36, 37, 38, 39, 40, 41, 42, 43, 44, 45, 46, 47, 48, 49, 50, 51, 52, 53, 54, 55, 56, 57, 58, 59, 60, 61, 62, 63, 64, 65, 66, 67, 68, 69, 70, 71, 72, 73, 74] u).eval = ev at *
        have hx := Z8.later hG
        have y0 := hx.cel 0
        have y1 := hx.cel 1
        simp at y0 y1
        refine k_val (.agg #[.bool (neg (x * y)), .string (mag (x * y))]) ⟨_, fg, rfl⟩ rfl hG ?_ rfl
        simp [go_sem, e8, y0, y1]
      · intro u W hG hf
        have e4 := frm_base (ds := [23, 24, 25, 26, 27, 28, 29, 30, 31, 32, 33, 34, 35, 36, 37, 38, 39, 40, 41, 42, 43, 44, 45, 46, 47, 48, 49, 50, 51, 52, 53, 54, 55, 56, 57, 58, 59, 60, 61, 62, 63, 64, 65, 66, 67, 68, 69, 70, 71, 72, 73, 74]) (u := u) (k := 4) (by rw [hN]; decide) rfl q4
        have fg : u 6 = .bool false := hf 6 (by decide)
        generalize (frm A [23, 24, 25, 26, 27, 28, 29, 30, 31, 32, 33, 34, 35, 36, 37, 38, 39, 40, 41, 42, 43, 44, 45, 46, 47, 48, 49, 50, 51, 52, 53, 54, 55, 56, 57, 58, 59, 60, 61, 62, 63, 64, 65, 66, 67, 68, 69, 70, 71, 72, 73, 74] u).eval = ev at *
        have hx := Z2.later hG
        have y0 := hx.cel 0
        have y1 := hx.cel 1
        simp at y0 y1
        refine k_val (.agg #[.bool a2, .string s2]) ⟨_, fg, rfl⟩ rfl hG ?_ rfl
        simp [go_sem, e4, y0, y1]
      · intro u W hG hf
        have e3 := frm_base (ds := [23, 24, 25, 26, 27, 28, 29, 30, 31, 32, 33, 34, 35, 36, 37, 38, 39, 40, 41, 42, 43, 44, 45, 46, 47, 48, 49, 50, 51, 52, 53, 54, 55, 56, 57, 58, 59, 60, 61, 62, 63, 64, 65, 66, 67, 68, 69, 70, 71, 72, 73, 74]) (u := u) (k := 3) (by rw [hN]; decide) rfl q3
        have fg : u 6 = .bool false := hf 6 (by decide)
        generalize (frm A [23, 24, 25, 26, 27, 28, 29, 30, 31, 32, 33, 34, 35, 36, 37, 38, 39, 40, 41, 42, 43, 44, 45, 46, 47, 48, 49, 50, 51, 52, 53, 54, 55, 56, 57, 58, 59, 60, 61, 62, 63, 64, 65, 66, 67, 68, 69, 70, 71, 72, 73, 74] u).eval = ev at *
        have hx := Z1.later hG
        have y0 := hx.cel 0
        have y1 := hx.cel 1
        simp at y0 y1
        refine k_val (.agg #[.bool a1, .string s1]) ⟨_, fg, rfl⟩ rfl hG ?_ rfl
        simp [go_sem, e3, y0, y1]
      · intro u W hG hf
        have f31 : u 8 = .agg #[.bool a2, .string s2] := hf 8 (by decide)
        have e31 := frm_head (ds := [23, 24, 25, 26, 27, 28, 29, 30, 31, 32, 33, 34, 35, 36, 37, 38, 39, 40, 41, 42, 43, 44, 45, 46, 47, 48, 49, 50, 51, 52, 53, 54, 55, 56, 57, 58, 59, 60, 61, 62, 63, 64, 65, 66, 67, 68, 69, 70, 71, 72, 73, 74]) (u := u) (k := 31) (i := 8) (by rw [hN]; decide) rfl f31
        have f32 : u 9 = .agg #[.bool a1, .string s1] := hf 9 (by decide)
        have e32 := frm_head (ds := [23, 24, 25, 26, 27, 28, 29, 30, 31, 32, 33, 34, 35, 36, 37, 38, 39, 40, 41, 42, 43, 44, 45, 46, 47, 48, 49, 50, 51, 52, 53, 54, 55, 56, 57, 58, 59, 60, 61, 62, 63, 64, 65, 66, 67, 68, 69, 70, 71, 72, 73, 74]) (u := u) (k := 32) (i := 9) (by rw [hN]; decide) rfl f32
        have fg : u 6 = .bool false := hf 6 (by decide)
        generalize (frm A [23, 24, 25, 26, 27, 28, 29, 30, 31, 32, 33, 34, 35, 36, 37, 38, 39, 40, 41, 42, 43, 44, 45, 46, 47, 48, 49, 50, 51, 52, 53, 54, 55, 56, 57, 58, 59, 60, 61, 62, 63, 64, 65, 66, 67, 68, 69, 70, 71, 72, 73, 74] u).eval = ev at *
        refine k_new (.slice (some ⟨W.heap.size, 0, none⟩) 2 2) (.cells #[.bool a2, .string s2, .bool a1, .string s1] 26) ⟨_, fg, rfl⟩ ?_ (nxtA hG _) ⟨_, rfl, below_le hG, Bx.new _ _ _⟩ rfl
        simp [go_sem, e31, e32]
      · intro u W hG hf
        obtain ⟨g33, f33, hb33, hx33⟩ : sliK w2.heap.size 26 2 #[.bool a2, .string s2, .bool a1, .string s1] (u 10) W := hf 10 (by decide)
        have e33 := frm_head (ds := [23, 24, 25, 26, 27, 28, 29, 30, 31, 32, 33, 34, 35, 36, 37, 38, 39, 40, 41, 42, 43, 44, 45, 46, 47, 48, 49, 50, 51, 52, 53, 54, 55, 56, 57, 58, 59, 60, 61, 62, 63, 64, 65, 66, 67, 68, 69, 70, 71, 72, 73, 74]) (u := u) (k := 33) (i := 10) (by rw [hN]; decide) rfl f33
        have fg : u 6 = .bool false := hf 6 (by decide)
        have ef : ∀ f, (frm A [23, 24, 25, 26, 27, 28, 29, 30, 31, 32, 33, 34, 35, 36, 37, 38, 39, 40, 41, 42, 43, 44, 45, 46, 47, 48, 49, 50, 51, 52, 53, 54, 55, 56, 57, 58, 59, 60, 61, 62, 63, 64, 65, 66, 67, 68, 69, 70, 71, 72, 73, 74] u).eval (.func f) = .func (.func f) #[] #[] := fun _ => rfl
        generalize (frm A [23, 24, 25, 26, 27, 28, 29, 30, 31, 32, 33, 34, 35, 36, 37, 38, 39, 40, 41, 42, 43, 44, 45, 46, 47, 48, 49, 50, 51, 52, 53, 54, 55, 56, 57, 58, 59, 60, 61, 62, 63, 64, 65, 66, 67, 68, 69, 70, 71, 72, 73, 74] u).eval = ev at *
        exact k_call _ _ ⟨_, fg, rfl⟩ rfl (by simp [go_sem, ef, e33]) (wMul2N n2 n1 (Int.mul_comm y x) hx33) (fun w' hb => nxt hG hb) (fun _ _ => rfl)
      · intro u W hG hf
        have f30 : u 7 = .agg #[.bool (neg (x * y)), .string (mag (x * y))] := hf 7 (by decide)
        have e30 := frm_head (ds := [23, 24, 25, 26, 27, 28, 29, 30, 31, 32, 33, 34, 35, 36, 37, 38, 39, 40, 41, 42, 43, 44, 45, 46, 47, 48, 49, 50, 51, 52, 53, 54, 55, 56, 57, 58, 59, 60, 61, 62, 63, 64, 65, 66, 67, 68, 69, 70, 71, 72, 73, 74]) (u := u) (k := 30) (i := 7) (by rw [hN]; decide) rfl f30
        have f34 : u 11 = .agg #[.bool (neg (x * y)), .string (mag (x * y))] := hf 11 (by decide)
        have e34 := frm_head (ds := [23, 24, 25, 26, 27, 28, 29, 30, 31, 32, 33, 34, 35, 36, 37, 38, 39, 40, 41, 42, 43, 44, 45, 46, 47, 48, 49, 50, 51, 52, 53, 54, 55, 56, 57, 58, 59, 60, 61, 62, 63, 64, 65, 66, 67, 68, 69, 70, 71, 72, 73, 74]) (u := u) (k := 34) (i := 11) (by rw [hN]; decide) rfl f34
        have fg : u 6 = .bool false := hf 6 (by decide)
        generalize (frm A [23, 24, 25, 26, 27, 28, 29, 30, 31, 32, 33, 34, 35, 36, 37, 38, 39, 40, 41, 42, 43, 44, 45, 46, 47, 48, 49, 50, 51, 52, 53, 54, 55, 56, 57, 58, 59, 60, 61, 62, 63, 64, 65, 66, 67, 68, 69, 70, 71, 72, 73, 74] u).eval = ev at *
        refine k_val (.bool false) ⟨_, fg, rfl⟩ rfl hG ?_ rfl
        simp [go_sem, e30, e34]
      · intro u W hG hf
        have f29 : u 6 = .bool false := hf 6 (by decide)
        have e29 := frm_head (ds := [23, 24, 25, 26, 27, 28, 29, 30, 31, 32, 33, 34, 35, 36, 37, 38, 39, 40, 41, 42, 43, 44, 45, 46, 47, 48, 49, 50, 51, 52, 53, 54, 55, 56, 57, 58, 59, 60, 61, 62, 63, 64, 65, 66, 67, 68, 69, 70, 71, 72, 73, 74]) (u := u) (k := 29) (i := 6) (by rw [hN]; decide) rfl f29
        have f35 : u 12 = .bool false := hf 12 (by decide)
        have e35 := frm_head (ds := [23, 24, 25, 26, 27, 28, 29, 30, 31, 32, 33, 34, 35, 36, 37, 38, 39, 40, 41, 42, 43, 44, 45, 46, 47, 48, 49, 50, 51, 52, 53, 54, 55, 56, 57, 58, 59, 60, 61, 62, 63, 64, 65, 66, 67, 68, 69, 70, 71, 72, 73, 74]) (u := u) (k := 35) (i := 12) (by rw [hN]; decide) rfl f35
        generalize (frm A [23, 24, 25, 26, 27, 28, 29, 30, 31, 32, 33, 34, 35, 36, 37, 38, 39, 40, 41, 42, 43, 44, 45, 46, 47, 48, 49, 50, 51, 52, 53, 54, 55, 56, 57, 58, 59, 60, 61, 62, 63, 64, 65, 66, 67, 68, 69, 70, 71, 72, 73, 74] u).eval = ev at *
        refine k_val (.bool false) rfl rfl hG ?_ rfl
        simp [go_sem, e29, e35]
      · intro u W hG hf
        have f36 : u 13 = .bool false := hf 13 (by decide)
        have e36 := frm_head (ds := [23, 24, 25, 26, 27, 28, 29, 30, 31, 32, 33, 34, 35, 36, 37, 38, 39, 40, 41, 42, 43, 44, 45, 46, 47, 48, 49, 50, 51, 52, 53, 54, 55, 56, 57, 58, 59, 60, 61, 62, 63, 64, 65, 66, 67, 68, 69, 70, 71, 72, 73, 74]) (u := u) (k := 36) (i := 13) (by rw [hN]; decide) rfl f36
        generalize (frm A [23, 24, 25, 26, 27, 28, 29, 30, 31, 32, 33, 34, 35, 36, 37, 38, 39, 40, 41, 42, 43, 44, 45, 46, 47, 48, 49, 50, 51, 52, 53, 54, 55, 56, 57, 58, 59, 60, 61, 62, 63, 64, 65, 66, 67, 68, 69, 70, 71, 72, 73, 74] u).eval = ev at *
        refine k_val (.bool false) rfl rfl hG ?_ rfl
        simp [go_sem, e36]
      · intro u W hG hf
        have e7 := frm_base (ds := [23, 24, 25, 26, 27, 28, 29, 30, 31, 32, 33, 34, 35, 36, 37, 38, 39, 40, 41, 42, 43, 44, 45, 46, 47, 48, 49, 50, 51, 52, 53, 54, 55, 56, 57, 58, 59, 60, 61, 62, 63, 64, 65, 66, 67, 68, 69, 70, 71, 72, 73, 74]) (u := u) (k := 7) (by rw [hN]; decide) rfl q7
        have fg : u 14 = .bool false := hf 14 (by decide)
        generalize (frm A [23, 24, 25, 26, 27, 28, 29, 30, 31, 32, 33, 34, 35, 36, 37, 38, 39, 40, 41, 42, 43, 44, 45, 46, 47, 48, 49, 50, 51, 52, 53, 54, 55, 56, 57, 58, 59, 60, 61, 62, 63, 64, 65, 66, 67, 68, 69, 70, 71, 72, 73, 74] u).eval = ev at *
        have hx := Z7.later hG
        have y0 := hx.cel 0
        have y1 := hx.cel 1
        simp at y0 y1
        refine k_val (.agg #[.bool (neg (x + y)), .string (mag (x + y))]) ⟨_, fg, rfl⟩ rfl hG ?_ rfl
        simp [go_sem, e7, y0, y1]
      · intro u W hG hf
        have e5 := frm_base (ds := [23, 24, 25, 26, 27, 28, 29, 30, 31, 32, 33, 34, 35, 36, 37, 38, 39, 40, 41, 42, 43, 44, 45, 46, 47, 48, 49, 50, 51, 52, 53, 54, 55, 56, 57, 58, 59, 60, 61, 62, 63, 64, 65, 66, 67, 68, 69, 70, 71, 72, 73, 74]) (u := u) (k := 5) (by rw [hN]; decide) rfl q5
        have fg : u 14 = .bool false := hf 14 (by decide)
        generalize (frm A [23, 24, 25, 26, 27, 28, 29, 30, 31, 32, 33, 34, 35, 36, 37, 38, 39, 40, 41, 42, 43, 44, 45, 46, 47, 48, 49, 50, 51, 52, 53, 54, 55, 56, 57, 58, 59, 60, 61, 62, 63, 64, 65, 66, 67, 68, 69, 70, 71, 72, 73, 74] u).eval = ev at *
        have hx := Z3.later hG
        have y0 := hx.cel 0
        have y1 := hx.cel 1
        simp at y0 y1
        refine k_val (.agg #[.bool a3, .string s3]) ⟨_, fg, rfl⟩ rfl hG ?_ rfl
        simp [go_sem, e5, y0, y1]
      · intro u W hG hf
        have f38 : u 15 = .agg #[.bool (neg (x + y)), .string (mag (x + y))] := hf 15 (by decide)
        have e38 := frm_head (ds := [23, 24, 25, 26, 27, 28, 29, 30, 31, 32, 33, 34, 35, 36, 37, 38, 39, 40, 41, 42, 43, 44, 45, 46, 47, 48, 49, 50, 51, 52, 53, 54, 55, 56, 57, 58, 59, 60, 61, 62, 63, 64, 65, 66, 67, 68, 69, 70, 71, 72, 73, 74]) (u := u) (k := 38) (i := 15) (by rw [hN]; decide) rfl f38
        have f39 : u 16 = .agg #[.bool a3, .string s3] := hf 16 (by decide)
        have e39 := frm_head (ds := [23, 24, 25, 26, 27, 28, 29, 30, 31, 32, 33, 34, 35, 36, 37, 38, 39, 40, 41, 42, 43, 44, 45, 46, 47, 48, 49, 50, 51, 52, 53, 54, 55, 56, 57, 58, 59, 60, 61, 62, 63, 64, 65, 66, 67, 68, 69, 70, 71, 72, 73, 74]) (u := u) (k := 39) (i := 16) (by rw [hN]; decide) rfl f39
        have fg : u 14 = .bool false := hf 14 (by decide)
        generalize (frm A [23, 24, 25, 26, 27, 28, 29, 30, 31, 32, 33, 34, 35, 36, 37, 38, 39, 40, 41, 42, 43, 44, 45, 46, 47, 48, 49, 50, 51, 52, 53, 54, 55, 56, 57, 58, 59, 60, 61, 62, 63, 64, 65, 66, 67, 68, 69, 70, 71, 72, 73, 74] u).eval = ev at *
        refine k_new (.slice (some ⟨W.heap.size, 0, none⟩) 2 2) (.cells #[.bool (neg (x + y)), .string (mag (x + y)), .bool a3, .string s3] 26) ⟨_, fg, rfl⟩ ?_ (nxtA hG _) ⟨_, rfl, below_le hG, Bx.new _ _ _⟩ rfl
        simp [go_sem, e38, e39]
      · intro u W hG hf
        obtain ⟨g40, f40, hb40, hx40⟩ : sliK w2.heap.size 26 2 #[.bool (neg (x + y)), .string (mag (x + y)), .bool a3, .string s3] (u 17) W := hf 17 (by decide)
        have e40 := frm_head (ds := [23, 24, 25, 26, 27, 28, 29, 30, 31, 32, 33, 34, 35, 36, 37, 38, 39, 40, 41, 42, 43, 44, 45, 46, 47, 48, 49, 50, 51, 52, 53, 54, 55, 56, 57, 58, 59, 60, 61, 62, 63, 64, 65, 66, 67, 68, 69, 70, 71, 72, 73, 74]) (u := u) (k := 40) (i := 17) (by rw [hN]; decide) rfl f40
        have fg : u 14 = .bool false := hf 14 (by decide)
        have ef : ∀ f, (frm A [23, 24, 25, 26, 27, 28, 29, 30, 31, 32, 33, 34, 35, 36, 37, 38, 39, 40, 41, 42, 43, 44, 45, 46, 47, 48, 49, 50, 51, 52, 53, 54, 55, 56, 57, 58, 59, 60, 61, 62, 63, 64, 65, 66, 67, 68, 69, 70, 71, 72, 73, 74] u).eval (.func f) = .func (.func f) #[] #[] := fun _ => rfl
        generalize (frm A [23, 24, 25, 26, 27, 28, 29, 30, 31, 32, 33, 34, 35, 36, 37, 38, 39, 40, 41, 42, 43, 44, 45, 46, 47, 48, 49, 50, 51, 52, 53, 54, 55, 56, 57, 58, 59, 60, 61, 62, 63, 64, 65, 66, 67, 68, 69, 70, 71, 72, 73, 74] u).eval = ev at *
        exact k_call _ _ ⟨_, fg, rfl⟩ rfl (by simp [go_sem, ef, e40]) (wAdd2N nS n3 (rfl) hx40) (fun w' hb => nxt hG hb) (fun _ _ => rfl)
      · intro u W hG hf
        have e3 := frm_base (ds := [23, 24, 25, 26, 27, 28, 29, 30, 31, 32, 33, 34, 35, 36, 37, 38, 39, 40, 41, 42, 43, 44, 45, 46, 47, 48, 49, 50, 51, 52, 53, 54, 55, 56, 57, 58, 59, 60, 61, 62, 63, 64, 65, 66, 67, 68, 69, 70, 71, 72, 73, 74]) (u := u) (k := 3) (by rw [hN]; decide) rfl q3
        have fg : u 14 = .bool false := hf 14 (by decide)
        generalize (frm A [23, 24, 25, 26, 27, 28, 29, 30, 31, 32, 33, 34, 35, 36, 37, 38, 39, 40, 41, 42, 43, 44, 45, 46, 47, 48, 49, 50, 51, 52, 53, 54, 55, 56, 57, 58, 59, 60, 61, 62, 63, 64, 65, 66, 67, 68, 69, 70, 71, 72, 73, 74] u).eval = ev at *
        have hx := Z1.later hG
        have y0 := hx.cel 0
        have y1 := hx.cel 1
        simp at y0 y1
        refine k_val (.agg #[.bool a1, .string s1]) ⟨_, fg, rfl⟩ rfl hG ?_ rfl
        simp [go_sem, e3, y0, y1]
      · intro u W hG hf
        have e4 := frm_base (ds := [23, 24, 25, 26, 27, 28, 29, 30, 31, 32, 33, 34, 35, 36, 37, 38, 39, 40, 41, 42, 43, 44, 45, 46, 47, 48, 49, 50, 51, 52, 53, 54, 55, 56, 57, 58, 59, 60, 61, 62, 63, 64, 65, 66, 67, 68, 69, 70, 71, 72, 73, 74]) (u := u) (k := 4) (by rw [hN]; decide) rfl q4
        have fg : u 14 = .bool false := hf 14 (by decide)
        generalize (frm A [23, 24, 25, 26, 27, 28, 29, 30, 31, 32, 33, 34, 35, 36, 37, 38, 39, 40, 41, 42, 43, 44, 45, 46, 47, 48, 49, 50, 51, 52, 53, 54, 55, 56, 57, 58, 59, 60, 61, 62, 63, 64, 65, 66, 67, 68, 69, 70, 71, 72, 73, 74] u).eval = ev at *
        have hx := Z2.later hG
        have y0 := hx.cel 0
        have y1 := hx.cel 1
        simp at y0 y1
        refine k_val (.agg #[.bool a2, .string s2]) ⟨_, fg, rfl⟩ rfl hG ?_ rfl
        simp [go_sem, e4, y0, y1]
      · intro u W hG hf
        have e5 := frm_base (ds := [23, 24, 25, 26, 27, 28, 29, 30, 31, 32, 33, 34, 35, 36, 37, 38, 39, 40, 41, 42, 43, 44, 45, 46, 47, 48, 49, 50, 51, 52, 53, 54, 55, 56, 57, 58, 59, 60, 61, 62, 63, 64, 65, 66, 67, 68, 69, 70, 71, 72, 73, 74]) (u := u) (k := 5) (by rw [hN]; decide) rfl q5
        have fg : u 14 = .bool false := hf 14 (by decide)
        generalize (frm A [23, 24, 25, 26, 27, 28, 29, 30, 31, 32, 33, 34, 35, 36, 37, 38, 39, 40, 41, 42, 43, 44, 45, 46, 47, 48, 49, 50, 51, 52, 53, 54, 55, 56, 57, 58, 59, 60, 61, 62, 63, 64, 65, 66, 67, 68, 69, 70, 71, 72, 73, 74] u).eval = ev at *
        have hx := Z3.later hG
        have y0 := hx.cel 0
        have y1 := hx.cel 1
        simp at y0 y1
        refine k_val (.agg #[.bool a3, .string s3]) ⟨_, fg, rfl⟩ rfl hG ?_ rfl
        simp [go_sem, e5, y0, y1]
      · intro u W hG hf
        have f42 : u 19 = .agg #[.bool a1, .string s1] := hf 19 (by decide)
        have e42 := frm_head (ds := [23, 24, 25, 26, 27, 28, 29, 30, 31, 32, 33, 34, 35, 36, 37, 38, 39, 40, 41, 42, 43, 44, 45, 46, 47, 48, 49, 50, 51, 52, 53, 54, 55, 56, 57, 58, 59, 60, 61, 62, 63, 64, 65, 66, 67, 68, 69, 70, 71, 72, 73, 74]) (u := u) (k := 42) (i := 19) (by rw [hN]; decide) rfl f42
        have f43 : u 20 = .agg #[.bool a2, .string s2] := hf 20 (by decide)
        have e43 := frm_head (ds := [23, 24, 25, 26, 27, 28, 29, 30, 31, 32, 33, 34, 35, 36, 37, 38, 39, 40, 41, 42, 43, 44, 45, 46, 47, 48, 49, 50, 51, 52, 53, 54, 55, 56, 57, 58, 59, 60, 61, 62, 63, 64, 65, 66, 67, 68, 69, 70, 71, 72, 73, 74]) (u := u) (k := 43) (i := 20) (by rw [hN]; decide) rfl f43
        have f44 : u 21 = .agg #[.bool a3, .string s3] := hf 21 (by decide)
        have e44 := frm_head (ds := [23, 24, 25, 26, 27, 28, 29, 30, 31, 32, 33, 34, 35, 36, 37, 38, 39, 40, 41, 42, 43, 44, 45, 46, 47, 48, 49, 50, 51, 52, 53, 54, 55, 56, 57, 58, 59, 60, 61, 62, 63, 64, 65, 66, 67, 68, 69, 70, 71, 72, 73, 74]) (u := u) (k := 44) (i := 21) (by rw [hN]; decide) rfl f44
        have fg : u 14 = .bool false := hf 14 (by decide)
        generalize (frm A [23, 24, 25, 26, 27, 28, 29, 30, 31, 32, 33, 34, 35, 36, 37, 38, 39, 40, 41, 42, 43, 44, 45, 46, 47, 48, 49, 50, 51, 52, 53, 54, 55, 56, 57, 58, 59, 60, 61, 62, 63, 64, 65, 66, 67, 68, 69, 70, 71, 72, 73, 74] u).eval = ev at *
        refine k_new (.slice (some ⟨W.heap.size, 0, none⟩) 3 3) (.cells #[.bool a1, .string s1, .bool a2, .string s2, .bool a3, .string s3] 26) ⟨_, fg, rfl⟩ ?_ (nxtA hG _) ⟨_, rfl, below_le hG, Bx.new _ _ _⟩ rfl
        simp [go_sem, e42, e43, e44]
      · intro u W hG hf
        obtain ⟨g45, f45, hb45, hx45⟩ : sliK w2.heap.size 26 3 #[.bool a1, .string s1, .bool a2, .string s2, .bool a3, .string s3] (u 22) W := hf 22 (by decide)
        have e45 := frm_head (ds := [23, 24, 25, 26, 27, 28, 29, 30, 31, 32, 33, 34, 35, 36, 37, 38, 39, 40, 41, 42, 43, 44, 45, 46, 47, 48, 49, 50, 51, 52, 53, 54, 55, 56, 57, 58, 59, 60, 61, 62, 63, 64, 65, 66, 67, 68, 69, 70, 71, 72, 73, 74]) (u := u) (k := 45) (i := 22) (by rw [hN]; decide) rfl f45
        have fg : u 14 = .bool false := hf 14 (by decide)
        have ef : ∀ f, (frm A [23, 24, 25, 26, 27, 28, 29, 30, 31, 32, 33, 34, 35, 36, 37, 38, 39, 40, 41, 42, 43, 44, 45, 46, 47, 48, 49, 50, 51, 52, 53, 54, 55, 56, 57, 58, 59, 60, 61, 62, 63, 64, 65, 66, 67, 68, 69, 70, 71, 72, 73, 74] u).eval (.func f) = .func (.func f) #[] #[] := fun _ => rfl
        generalize (frm A [23, 24, 25, 26, 27, 28, 29, 30, 31, 32, 33, 34, 35, 36, 37, 38, 39, 40, 41, 42, 43, 44, 45, 46, 47, 48, 49, 50, 51, 52, 53, 54, 55, 56, 57, 58, 59, 60, 61, 62, 63, 64, 65, 66, 67, 68, 69, 70, 71, 72, 73, 74] u).eval = ev at *
        exact k_call _ _ ⟨_, fg, rfl⟩ rfl (by simp [go_sem, ef, e45]) (wAdd3N n1 n2 n3 (rfl) hx45) (fun w' hb => nxt hG hb) (fun _ _ => rfl)
      · intro u W hG hf
        have f41 : u 18 = .agg #[.bool (neg (x + y + z)), .string (mag (x + y + z))] := hf 18 (by decide)
        have e41 := frm_head (ds := [23, 24, 25, 26, 27, 28, 29, 30, 31, 32, 33, 34, 35, 36, 37, 38, 39, 40, 41, 42, 43, 44, 45, 46, 47, 48, 49, 50, 51, 52, 53, 54, 55, 56, 57, 58, 59, 60, 61, 62, 63, 64, 65, 66, 67, 68, 69, 70, 71, 72, 73, 74]) (u := u) (k := 41) (i := 18) (by rw [hN]; decide) rfl f41
        have f46 : u 23 = .agg #[.bool (neg (x + y + z)), .string (mag (x + y + z))] := hf 23 (by decide)
        have e46 := frm_head (ds := [23, 24, 25, 26, 27, 28, 29, 30, 31, 32, 33, 34, 35, 36, 37, 38, 39, 40, 41, 42, 43, 44, 45, 46, 47, 48, 49, 50, 51, 52, 53, 54, 55, 56, 57, 58, 59, 60, 61, 62, 63, 64, 65, 66, 67, 68, 69, 70, 71, 72, 73, 74]) (u := u) (k := 46) (i := 23) (by rw [hN]; decide) rfl f46
        have fg : u 14 = .bool false := hf 14 (by decide)
        generalize (frm A [23, 24, 25, 26, 27, 28, 29, 30, 31, 32, 33, 34, 35, 36, 37, 38, 39, 40, 41, 42, 43, 44, 45, 46, 47, 48, 49, 50, 51, 52, 53, 54, 55, 56, 57, 58, 59, 60, 61, 62, 63, 64, 65, 66, 67, 68, 69, 70, 71, 72, 73, 74] u).eval = ev at *
        refine k_val (.bool false) ⟨_, fg, rfl⟩ rfl hG ?_ rfl
        simp [go_sem, e41, e46]
      · intro u W hG hf
        have f37 : u 14 = .bool false := hf 14 (by decide)
        have e37 := frm_head (ds := [23, 24, 25, 26, 27, 28, 29, 30, 31, 32, 33, 34, 35, 36, 37, 38, 39, 40, 41, 42, 43, 44, 45, 46, 47, 48, 49, 50, 51, 52, 53, 54, 55, 56, 57, 58, 59, 60, 61, 62, 63, 64, 65, 66, 67, 68, 69, 70, 71, 72, 73, 74]) (u := u) (k := 37) (i := 14) (by rw [hN]; decide) rfl f37
        have f47 : u 24 = .bool false := hf 24 (by decide)
        have e47 := frm_head (ds := [23, 24, 25, 26, 27, 28, 29, 30, 31, 32, 33, 34, 35, 36, 37, 38, 39, 40, 41, 42, 43, 44, 45, 46, 47, 48, 49, 50, 51, 52, 53, 54, 55, 56, 57, 58, 59, 60, 61, 62, 63, 64, 65, 66, 67, 68, 69, 70, 71, 72, 73, 74]) (u := u) (k := 47) (i := 24) (by rw [hN]; decide) rfl f47
        generalize (frm A [23, 24, 25, 26, 27, 28, 29, 30, 31, 32, 33, 34, 35, 36, 37, 38, 39, 40, 41, 42, 43, 44, 45, 46, 47, 48, 49, 50, 51, 52, 53, 54, 55, 56, 57, 58, 59, 60, 61, 62, 63, 64, 65, 66, 67, 68, 69, 70, 71, 72, 73, 74] u).eval = ev at *
        refine k_val (.bool false) rfl rfl hG ?_ rfl
        simp [go_sem, e37, e47]
      · intro u W hG hf
        have f48 : u 25 = .bool false := hf 25 (by decide)
        have e48 := frm_head (ds := [23, 24, 25, 26, 27, 28, 29, 30, 31, 32, 33, 34, 35, 36, 37, 38, 39, 40, 41, 42, 43, 44, 45, 46, 47, 48, 49, 50, 51, 52, 53, 54, 55, 56, 57, 58, 59, 60, 61, 62, 63, 64, 65, 66, 67, 68, 69, 70, 71, 72, 73, 74]) (u := u) (k := 48) (i := 25) (by rw [hN]; decide) rfl f48
        generalize (frm A [23, 24, 25, 26, 27, 28, 29, 30, 31, 32, 33, 34, 35, 36, 37, 38, 39, 40, 41, 42, 43, 44, 45, 46, 47, 48, 49, 50, 51, 52, 53, 54, 55, 56, 57, 58, 59, 60, 61, 62, 63, 64, 65, 66, 67, 68, 69, 70, 71, 72, 73, 74] u).eval = ev at *
        refine k_val (.bool false) rfl rfl hG ?_ rfl
        simp [go_sem, e48]
      · intro u W hG hf
        have e8 := frm_base (ds := [23, 24, 25, 26, 27, 28, 29, 30, 31, 32, 33, 34, 35, 36, 37, 38, 39, 40, 41, 42, 43, 44, 45, 46, 47, 48, 49, 50, 51, 52, 53, 54, 55, 56, 57, 58, 59, 60, 61, 62, 63, 64, 65, 66, 67, 68, 69, 70, 71, 72, 73, 74]) (u := u) (k := 8) (by rw [hN]; decide) rfl q8
        have fg : u 26 = .bool false := hf 26 (by decide)
        generalize (frm A [23, 24, 25, 26, 27, 28, 29, 30, 31, 32, 33, 34, 35, 36, 37, 38, 39, 40, 41, 42, 43, 44, 45, 46, 47, 48, 49, 50, 51, 52, 53, 54, 55, 56, 57, 58, 59, 60, 61, 62, 63, 64, 65, 66, 67, 68, 69, 70, 71, 72, 73, 74] u).eval = ev at *
        have hx := Z8.later hG
        have y0 := hx.cel 0
        have y1 := hx.cel 1
        simp at y0 y1
        refine k_val (.agg #[.bool (neg (x * y)), .string (mag (x * y))]) ⟨_, fg, rfl⟩ rfl hG ?_ rfl
        simp [go_sem, e8, y0, y1]
      · intro u W hG hf
        have e5 := frm_base (ds := [23, 24, 25, 26, 27, 28, 29, 30, 31, 32, 33, 34, 35, 36, 37, 38, 39, 40, 41, 42, 43, 44, 45, 46, 47, 48, 49, 50, 51, 52, 53, 54, 55, 56, 57, 58, 59, 60, 61, 62, 63, 64, 65, 66, 67, 68, 69, 70, 71, 72, 73, 74]) (u := u) (k := 5) (by rw [hN]; decide) rfl q5
        have fg : u 26 = .bool false := hf 26 (by decide)
        generalize (frm A [23, 24, 25, 26, 27, 28, 29, 30, 31, 32, 33, 34, 35, 36, 37, 38, 39, 40, 41, 42, 43, 44, 45, 46, 47, 48, 49, 50, 51, 52, 53, 54, 55, 56, 57, 58, 59, 60, 61, 62, 63, 64, 65, 66, 67, 68, 69, 70, 71, 72, 73, 74] u).eval = ev at *
        have hx := Z3.later hG
        have y0 := hx.cel 0
        have y1 := hx.cel 1
        simp at y0 y1
        refine k_val (.agg #[.bool a3, .string s3]) ⟨_, fg, rfl⟩ rfl hG ?_ rfl
        simp [go_sem, e5, y0, y1]
      · intro u W hG hf
        have f50 : u 27 = .agg #[.bool (neg (x * y)), .string (mag (x * y))] := hf 27 (by decide)
        have e50 := frm_head (ds := [23, 24, 25, 26, 27, 28, 29, 30, 31, 32, 33, 34, 35, 36, 37, 38, 39, 40, 41, 42, 43, 44, 45, 46, 47, 48, 49, 50, 51, 52, 53, 54, 55, 56, 57, 58, 59, 60, 61, 62, 63, 64, 65, 66, 67, 68, 69, 70, 71, 72, 73, 74]) (u := u) (k := 50) (i := 27) (by rw [hN]; decide) rfl f50
        have f51 : u 28 = .agg #[.bool a3, .string s3] := hf 28 (by decide)
        have e51 := frm_head (ds := [23, 24, 25, 26, 27, 28, 29, 30, 31, 32, 33, 34, 35, 36, 37, 38, 39, 40, 41, 42, 43, 44, 45, 46, 47, 48, 49, 50, 51, 52, 53, 54, 55, 56, 57, 58, 59, 60, 61, 62, 63, 64, 65, 66, 67, 68, 69, 70, 71, 72, 73, 74]) (u := u) (k := 51) (i := 28) (by rw [hN]; decide) rfl f51
        have fg : u 26 = .bool false := hf 26 (by decide)
        generalize (frm A [23, 24, 25, 26, 27, 28, 29, 30, 31, 32, 33, 34, 35, 36, 37, 38, 39, 40, 41, 42, 43, 44, 45, 46, 47, 48, 49, 50, 51, 52, 53, 54, 55, 56, 57, 58, 59, 60, 61, 62, 63, 64, 65, 66, 67, 68, 69, 70, 71, 72, 73, 74] u).eval = ev at *
        refine k_new (.slice (some ⟨W.heap.size, 0, none⟩) 2 2) (.cells #[.bool (neg (x * y)), .string (mag (x * y)), .bool a3, .string s3] 26) ⟨_, fg, rfl⟩ ?_ (nxtA hG _) ⟨_, rfl, below_le hG, Bx.new _ _ _⟩ rfl
        simp [go_sem, e50, e51]
      · intro u W hG hf
        obtain ⟨g52, f52, hb52, hx52⟩ : sliK w2.heap.size 26 2 #[.bool (neg (x * y)), .string (mag (x * y)), .bool a3, .string s3] (u 29) W := hf 29 (by decide)
        have e52 := frm_head (ds := [23, 24, 25, 26, 27, 28, 29, 30, 31, 32, 33, 34, 35, 36, 37, 38, 39, 40, 41, 42, 43, 44, 45, 46, 47, 48, 49, 50, 51, 52, 53, 54, 55, 56, 57, 58, 59, 60, 61, 62, 63, 64, 65, 66, 67, 68, 69, 70, 71, 72, 73, 74]) (u := u) (k := 52) (i := 29) (by rw [hN]; decide) rfl f52
        have fg : u 26 = .bool false := hf 26 (by decide)
        have ef : ∀ f, (frm A [23, 24, 25, 26, 27, 28, 29, 30, 31, 32, 33, 34, 35, 36, 37, 38, 39, 40, 41, 42, 43, 44, 45, 46, 47, 48, 49, 50, 51, 52, 53, 54, 55, 56, 57, 58, 59, 60, 61, 62, 63, 64, 65, 66, 67, 68, 69, 70, 71, 72, 73, 74] u).eval (.func f) = .func (.func f) #[] #[] := fun _ => rfl
        generalize (frm A [23, 24, 25, 26, 27, 28, 29, 30, 31, 32, 33, 34, 35, 36, 37, 38, 39, 40, 41, 42, 43, 44, 45, 46, 47, 48, 49, 50, 51, 52, 53, 54, 55, 56, 57, 58, 59, 60, 61, 62, 63, 64, 65, 66, 67, 68, 69, 70, 71, 72, 73, 74] u).eval = ev at *
        exact k_call _ _ ⟨_, fg, rfl⟩ rfl (by simp [go_sem, ef, e52]) (wMul2N nP n3 (rfl) hx52) (fun w' hb => nxt hG hb) (fun _ _ => rfl)
      · intro u W hG hf
        have e3 := frm_base (ds := [23, 24, 25, 26, 27, 28, 29, 30, 31, 32, 33, 34, 35, 36, 37, 38, 39, 40, 41, 42, 43, 44, 45, 46, 47, 48, 49, 50, 51, 52, 53, 54, 55, 56, 57, 58, 59, 60, 61, 62, 63, 64, 65, 66, 67, 68, 69, 70, 71, 72, 73, 74]) (u := u) (k := 3) (by rw [hN]; decide) rfl q3
        have fg : u 26 = .bool false := hf 26 (by decide)
        generalize (frm A [23, 24, 25, 26, 27, 28, 29, 30, 31, 32, 33, 34, 35, 36, 37, 38, 39, 40, 41, 42, 43, 44, 45, 46, 47, 48, 49, 50, 51, 52, 53, 54, 55, 56, 57, 58, 59, 60, 61, 62, 63, 64, 65, 66, 67, 68, 69, 70, 71, 72, 73, 74] u).eval = ev at *
        have hx := Z1.later hG
        have y0 := hx.cel 0
        have y1 := hx.cel 1
        simp at y0 y1
        refine k_val (.agg #[.bool a1, .string s1]) ⟨_, fg, rfl⟩ rfl hG ?_ rfl
        simp [go_sem, e3, y0, y1]
      · intro u W hG hf
        have e4 := frm_base (ds := [23, 24, 25, 26, 27, 28, 29, 30, 31, 32, 33, 34, 35, 36, 37, 38, 39, 40, 41, 42, 43, 44, 45, 46, 47, 48, 49, 50, 51, 52, 53, 54, 55, 56, 57, 58, 59, 60, 61, 62, 63, 64, 65, 66, 67, 68, 69, 70, 71, 72, 73, 74]) (u := u) (k := 4) (by rw [hN]; decide) rfl q4
        have fg : u 26 = .bool false := hf 26 (by decide)
        generalize (frm A [23, 24, 25, 26, 27, 28, 29, 30, 31, 32, 33, 34, 35, 36, 37, 38, 39, 40, 41, 42, 43, 44, 45, 46, 47, 48, 49, 50, 51, 52, 53, 54, 55, 56, 57, 58, 59, 60, 61, 62, 63, 64, 65, 66, 67, 68, 69, 70, 71, 72, 73, 74] u).eval = ev at *
        have hx := Z2.later hG
        have y0 := hx.cel 0
        have y1 := hx.cel 1
        simp at y0 y1
        refine k_val (.agg #[.bool a2, .string s2]) ⟨_, fg, rfl⟩ rfl hG ?_ rfl
        simp [go_sem, e4, y0, y1]
      · intro u W hG hf
        have e5 := frm_base (ds := [23, 24, 25, 26, 27, 28, 29, 30, 31, 32, 33, 34, 35, 36, 37, 38, 39, 40, 41, 42, 43, 44, 45, 46, 47, 48, 49, 50, 51, 52, 53, 54, 55, 56, 57, 58, 59, 60, 61, 62, 63, 64, 65, 66, 67, 68, 69, 70, 71, 72, 73, 74]) (u := u) (k := 5) (by rw [hN]; decide) rfl q5
        have fg : u 26 = .bool false := hf 26 (by decide)
        generalize (frm A [23, 24, 25, 26, 27, 28, 29, 30, 31, 32, 33, 34, 35, 36, 37, 38, 39, 40, 41, 42, 43, 44, 45, 46, 47, 48, 49, 50, 51, 52, 53, 54, 55, 56, 57, 58, 59, 60, 61, 62, 63, 64, 65, 66, 67, 68, 69, 70, 71, 72, 73, 74] u).eval = ev at *
        have hx := Z3.later hG
        have y0 := hx.cel 0
        have y1 := hx.cel 1
        simp at y0 y1
        refine k_val (.agg #[.bool a3, .string s3]) ⟨_, fg, rfl⟩ rfl hG ?_ rfl
        simp [go_sem, e5, y0, y1]
      · intro u W hG hf
        have f54 : u 31 = .agg #[.bool a1, .string s1] := hf 31 (by decide)
        have e54 := frm_head (ds := [23, 24, 25, 26, 27, 28, 29, 30, 31, 32, 33, 34, 35, 36, 37, 38, 39, 40, 41, 42, 43, 44, 45, 46, 47, 48, 49, 50, 51, 52, 53, 54, 55, 56, 57, 58, 59, 60, 61, 62, 63, 64, 65, 66, 67, 68, 69, 70, 71, 72, 73, 74]) (u := u) (k := 54) (i := 31) (by rw [hN]; decide) rfl f54
        have f55 : u 32 = .agg #[.bool a2, .string s2] := hf 32 (by decide)
        have e55 := frm_head (ds := [23, 24, 25, 26, 27, 28, 29, 30, 31, 32, 33, 34, 35, 36, 37, 38, 39, 40, 41, 42, 43, 44, 45, 46, 47, 48, 49, 50, 51, 52, 53, 54, 55, 56, 57, 58, 59, 60, 61, 62, 63, 64, 65, 66, 67, 68, 69, 70, 71, 72, 73, 74]) (u := u) (k := 55) (i := 32) (by rw [hN]; decide) rfl f55
        have f56 : u 33 = .agg #[.bool a3, .string s3] := hf 33 (by decide)
        have e56 := frm_head (ds := [23, 24, 25, 26, 27, 28, 29, 30, 31, 32, 33, 34, 35, 36, 37, 38, 39, 40, 41, 42, 43, 44, 45, 46, 47, 48, 49, 50, 51, 52, 53, 54, 55, 56, 57, 58, 59, 60, 61, 62, 63, 64, 65, 66, 67, 68, 69, 70, 71, 72, 73, 74]) (u := u) (k := 56) (i := 33) (by rw [hN]; decide) rfl f56
        have fg : u 26 = .bool false := hf 26 (by decide)
        generalize (frm A [23, 24, 25, 26, 27, 28, 29, 30, 31, 32, 33, 34, 35, 36, 37, 38, 39, 40, 41, 42, 43, 44, 45, 46, 47, 48, 49, 50, 51, 52, 53, 54, 55, 56, 57, 58, 59, 60, 61, 62, 63, 64, 65, 66, 67, 68, 69, 70, 71, 72, 73, 74] u).eval = ev at *
        refine k_new (.slice (some ⟨W.heap.size, 0, none⟩) 3 3) (.cells #[.bool a1, .string s1, .bool a2, .string s2, .bool a3, .string s3] 26) ⟨_, fg, rfl⟩ ?_ (nxtA hG _) ⟨_, rfl, below_le hG, Bx.new _ _ _⟩ rfl
        simp [go_sem, e54, e55, e56]
      · intro u W hG hf
        obtain ⟨g57, f57, hb57, hx57⟩ : sliK w2.heap.size 26 3 #[.bool a1, .string s1, .bool a2, .string s2, .bool a3, .string s3] (u 34) W := hf 34 (by decide)
        have e57 := frm_head (ds := [23, 24, 25, 26, 27, 28, 29, 30, 31, 32, 33, 34, 35, 36, 37, 38, 39, 40, 41, 42, 43, 44, 45, 46, 47, 48, 49, 50, 51, 52, 53, 54, 55, 56, 57, 58, 59, 60, 61, 62, 63, 64, 65, 66, 67, 68, 69, 70, 71, 72, 73, 74]) (u := u) (k := 57) (i := 34) (by rw [hN]; decide) rfl f57
        have fg : u 26 = .bool false := hf 26 (by decide)
        have ef : ∀ f, (frm A [23, 24, 25, 26, 27, 28, 29, 30, 31, 32, 33, 34, 35, 36, 37, 38, 39, 40, 41, 42, 43, 44, 45, 46, 47, 48, 49, 50, 51, 52, 53, 54, 55, 56, 57, 58, 59, 60, 61, 62, 63, 64, 65, 66, 67, 68, 69, 70, 71, 72, 73, 74] u).eval (.func f) = .func (.func f) #[] #[] := fun _ => rfl
        generalize (frm A [23, 24, 25, 26, 27, 28, 29, 30, 31, 32, 33, 34, 35, 36, 37, 38, 39, 40, 41, 42, 43, 44, 45, 46, 47, 48, 49, 50, 51, 52, 53, 54, 55, 56, 57, 58, 59, 60, 61, 62, 63, 64, 65, 66, 67, 68, 69, 70, 71, 72, 73, 74] u).eval = ev at *
        exact k_call _ _ ⟨_, fg, rfl⟩ rfl (by simp [go_sem, ef, e57]) (wMul3N n1 n2 n3 (rfl) hx57) (fun w' hb => nxt hG hb) (fun _ _ => rfl)
      · intro u W hG hf
        have f53 : u 30 = .agg #[.bool (neg (x * y * z)), .string (mag (x * y * z))] := hf 30 (by decide)
        have e53 := frm_head (ds := [23, 24, 25, 26, 27, 28, 29, 30, 31, 32, 33, 34, 35, 36, 37, 38, 39, 40, 41, 42, 43, 44, 45, 46, 47, 48, 49, 50, 51, 52, 53, 54, 55, 56, 57, 58, 59, 60, 61, 62, 63, 64, 65, 66, 67, 68, 69, 70, 71, 72, 73, 74]) (u := u) (k := 53) (i := 30) (by rw [hN]; decide) rfl f53
        have f58 : u 35 = .agg #[.bool (neg (x * y * z)), .string (mag (x * y * z))] := hf 35 (by decide)
        have e58 := frm_head (ds := [23, 24, 25, 26, 27, 28, 29, 30, 31, 32, 33, 34, 35, 36, 37, 38, 39, 40, 41, 42, 43, 44, 45, 46, 47, 48, 49, 50, 51, 52, 53, 54, 55, 56, 57, 58, 59, 60, 61, 62, 63, 64, 65, 66, 67, 68, 69, 70, 71, 72, 73, 74]) (u := u) (k := 58) (i := 35) (by rw [hN]; decide) rfl f58
        have fg : u 26 = .bool false := hf 26 (by decide)
        generalize (frm A [23, 24, 25, 26, 27, 28, 29, 30, 31, 32, 33, 34, 35, 36, 37, 38, 39, 40, 41, 42, 43, 44, 45, 46, 47, 48, 49, 50, 51, 52, 53, 54, 55, 56, 57, 58, 59, 60, 61, 62, 63, 64, 65, 66, 67, 68, 69, 70, 71, 72, 73, 74] u).eval = ev at *
        refine k_val (.bool false) ⟨_, fg, rfl⟩ rfl hG ?_ rfl
        simp [go_sem, e53, e58]
      · intro u W hG hf
        have f49 : u 26 = .bool false := hf 26 (by decide)
        have e49 := frm_head (ds := [23, 24, 25, 26, 27, 28, 29, 30, 31, 32, 33, 34, 35, 36, 37, 38, 39, 40, 41, 42, 43, 44, 45, 46, 47, 48, 49, 50, 51, 52, 53, 54, 55, 56, 57, 58, 59, 60, 61, 62, 63, 64, 65, 66, 67, 68, 69, 70, 71, 72, 73, 74]) (u := u) (k := 49) (i := 26) (by rw [hN]; decide) rfl f49
        have f59 : u 36 = .bool false := hf 36 (by decide)
        have e59 := frm_head (ds := [23, 24, 25, 26, 27, 28, 29, 30, 31, 32, 33, 34, 35, 36, 37, 38, 39, 40, 41, 42, 43, 44, 45, 46, 47, 48, 49, 50, 51, 52, 53, 54, 55, 56, 57, 58, 59, 60, 61, 62, 63, 64, 65, 66, 67, 68, 69, 70, 71, 72, 73, 74]) (u := u) (k := 59) (i := 36) (by rw [hN]; decide) rfl f59
        generalize (frm A [23, 24, 25, 26, 27, 28, 29, 30, 31, 32, 33, 34, 35, 36, 37, 38, 39, 40, 41, 42, 43, 44, 45, 46, 47, 48, 49, 50, 51, 52, 53, 54, 55, 56, 57, 58, 59, 60, 61, 62, 63, 64, 65, 66, 67, 68, 69, 70, 71, 72, 73, 74] u).eval = ev at *
        refine k_val (.bool false) rfl rfl hG ?_ rfl
        simp [go_sem, e49, e59]
      · intro u W hG hf
        have f60 : u 37 = .bool false := hf 37 (by decide)
        have e60 := frm_head (ds := [23, 24, 25, 26, 27, 28, 29, 30, 31, 32, 33, 34, 35, 36, 37, 38, 39, 40, 41, 42, 43, 44, 45, 46, 47, 48, 49, 50, 51, 52, 53, 54, 55, 56, 57, 58, 59, 60, 61, 62, 63, 64, 65, 66, 67, 68, 69, 70, 71, 72, 73, 74]) (u := u) (k := 60) (i := 37) (by rw [hN]; decide) rfl f60
        generalize (frm A [23, 24, 25, 26, 27, 28, 29, 30, 31, 32, 33, 34, 35, 36, 37, 38, 39, 40, 41, 42, 43, 44, 45, 46, 47, 48, 49, 50, 51, 52, 53, 54, 55, 56, 57, 58, 59, 60, 61, 62, 63, 64, 65, 66, 67, 68, 69, 70, 71, 72, 73, 74] u).eval = ev at *
        refine k_val (.bool false) rfl rfl hG ?_ rfl
        simp [go_sem, e60]
      · intro u W hG hf
        have e3 := frm_base (ds := [23, 24, 25, 26, 27, 28, 29, 30, 31, 32, 33, 34, 35, 36, 37, 38, 39, 40, 41, 42, 43, 44, 45, 46, 47, 48, 49, 50, 51, 52, 53, 54, 55, 56, 57, 58, 59, 60, 61, 62, 63, 64, 65, 66, 67, 68, 69, 70, 71, 72, 73, 74]) (u := u) (k := 3) (by rw [hN]; decide) rfl q3
        have fg : u 38 = .bool false := hf 38 (by decide)
        generalize (frm A [23, 24, 25, 26, 27, 28, 29, 30, 31, 32, 33, 34, 35, 36, 37, 38, 39, 40, 41, 42, 43, 44, 45, 46, 47, 48, 49, 50, 51, 52, 53, 54, 55, 56, 57, 58, 59, 60, 61, 62, 63, 64, 65, 66, 67, 68, 69, 70, 71, 72, 73, 74] u).eval = ev at *
        have hx := Z1.later hG
        have y0 := hx.cel 0
        have y1 := hx.cel 1
        simp at y0 y1
        refine k_val (.agg #[.bool a1, .string s1]) ⟨_, fg, rfl⟩ rfl hG ?_ rfl
        simp [go_sem, e3, y0, y1]
      · intro u W hG hf
        have e4 := frm_base (ds := [23, 24, 25, 26, 27, 28, 29, 30, 31, 32, 33, 34, 35, 36, 37, 38, 39, 40, 41, 42, 43, 44, 45, 46, 47, 48, 49, 50, 51, 52, 53, 54, 55, 56, 57, 58, 59, 60, 61, 62, 63, 64, 65, 66, 67, 68, 69, 70, 71, 72, 73, 74]) (u := u) (k := 4) (by rw [hN]; decide) rfl q4
        have fg : u 38 = .bool false := hf 38 (by decide)
        generalize (frm A [23, 24, 25, 26, 27, 28, 29, 30, 31, 32, 33, 34, 35, 36, 37, 38, 39, 40, 41, 42, 43, 44, 45, 46, 47, 48, 49, 50, 51, 52, 53, 54, 55, 56, 57, 58, 59, 60, 61, 62, 63, 64, 65, 66, 67, 68, 69, 70, 71, 72, 73, 74] u).eval = ev at *
        have hx := Z2.later hG
        have y0 := hx.cel 0
        have y1 := hx.cel 1
        simp at y0 y1
        refine k_val (.agg #[.bool a2, .string s2]) ⟨_, fg, rfl⟩ rfl hG ?_ rfl
        simp [go_sem, e4, y0, y1]
      · intro u W hG hf
        have e5 := frm_base (ds := [23, 24, 25, 26, 27, 28, 29, 30, 31, 32, 33, 34, 35, 36, 37, 38, 39, 40, 41, 42, 43, 44, 45, 46, 47, 48, 49, 50, 51, 52, 53, 54, 55, 56, 57, 58, 59, 60, 61, 62, 63, 64, 65, 66, 67, 68, 69, 70, 71, 72, 73, 74]) (u := u) (k := 5) (by rw [hN]; decide) rfl q5
        have fg : u 38 = .bool false := hf 38 (by decide)
        generalize (frm A [23, 24, 25, 26, 27, 28, 29, 30, 31, 32, 33, 34, 35, 36, 37, 38, 39, 40, 41, 42, 43, 44, 45, 46, 47, 48, 49, 50, 51, 52, 53, 54, 55, 56, 57, 58, 59, 60, 61, 62, 63, 64, 65, 66, 67, 68, 69, 70, 71, 72, 73, 74] u).eval = ev at *
        have hx := Z3.later hG
        have y0 := hx.cel 0
        have y1 := hx.cel 1
        simp at y0 y1
        refine k_val (.agg #[.bool a3, .string s3]) ⟨_, fg, rfl⟩ rfl hG ?_ rfl
        simp [go_sem, e5, y0, y1]
      · intro u W hG hf
        have f63 : u 40 = .agg #[.bool a2, .string s2] := hf 40 (by decide)
        have e63 := frm_head (ds := [23, 24, 25, 26, 27, 28, 29, 30, 31, 32, 33, 34, 35, 36, 37, 38, 39, 40, 41, 42, 43, 44, 45, 46, 47, 48, 49, 50, 51, 52, 53, 54, 55, 56, 57, 58, 59, 60, 61, 62, 63, 64, 65, 66, 67, 68, 69, 70, 71, 72, 73, 74]) (u := u) (k := 63) (i := 40) (by rw [hN]; decide) rfl f63
        have f64 : u 41 = .agg #[.bool a3, .string s3] := hf 41 (by decide)
        have e64 := frm_head (ds := [23, 24, 25, 26, 27, 28, 29, 30, 31, 32, 33, 34, 35, 36, 37, 38, 39, 40, 41, 42, 43, 44, 45, 46, 47, 48, 49, 50, 51, 52, 53, 54, 55, 56, 57, 58, 59, 60, 61, 62, 63, 64, 65, 66, 67, 68, 69, 70, 71, 72, 73, 74]) (u := u) (k := 64) (i := 41) (by rw [hN]; decide) rfl f64
        have fg : u 38 = .bool false := hf 38 (by decide)
        generalize (frm A [23, 24, 25, 26, 27, 28, 29, 30, 31, 32, 33, 34, 35, 36, 37, 38, 39, 40, 41, 42, 43, 44, 45, 46, 47, 48, 49, 50, 51, 52, 53, 54, 55, 56, 57, 58, 59, 60, 61, 62, 63, 64, 65, 66, 67, 68, 69, 70, 71, 72, 73, 74] u).eval = ev at *
        refine k_new (.slice (some ⟨W.heap.size, 0, none⟩) 2 2) (.cells #[.bool a2, .string s2, .bool a3, .string s3] 26) ⟨_, fg, rfl⟩ ?_ (nxtA hG _) ⟨_, rfl, below_le hG, Bx.new _ _ _⟩ rfl
        simp [go_sem, e63, e64]
      · intro u W hG hf
        obtain ⟨g65, f65, hb65, hx65⟩ : sliK w2.heap.size 26 2 #[.bool a2, .string s2, .bool a3, .string s3] (u 42) W := hf 42 (by decide)
        have e65 := frm_head (ds := [23, 24, 25, 26, 27, 28, 29, 30, 31, 32, 33, 34, 35, 36, 37, 38, 39, 40, 41, 42, 43, 44, 45, 46, 47, 48, 49, 50, 51, 52, 53, 54, 55, 56, 57, 58, 59, 60, 61, 62, 63, 64, 65, 66, 67, 68, 69, 70, 71, 72, 73, 74]) (u := u) (k := 65) (i := 42) (by rw [hN]; decide) rfl f65
        have fg : u 38 = .bool false := hf 38 (by decide)
        have ef : ∀ f, (frm A [23, 24, 25, 26, 27, 28, 29, 30, 31, 32, 33, 34, 35, 36, 37, 38, 39, 40, 41, 42, 43, 44, 45, 46, 47, 48, 49, 50, 51, 52, 53, 54, 55, 56, 57, 58, 59, 60, 61, 62, 63, 64, 65, 66, 67, 68, 69, 70, 71, 72, 73, 74] u).eval (.func f) = .func (.func f) #[] #[] := fun _ => rfl
        generalize (frm A [23, 24, 25, 26, 27, 28, 29, 30, 31, 32, 33, 34, 35, 36, 37, 38, 39, 40, 41, 42, 43, 44, 45, 46, 47, 48, 49, 50, 51, 52, 53, 54, 55, 56, 57, 58, 59, 60, 61, 62, 63, 64, 65, 66, 67, 68, 69, 70, 71, 72, 73, 74] u).eval = ev at *
        exact k_call _ _ ⟨_, fg, rfl⟩ rfl (by simp [go_sem, ef, e65]) (wMul2N n2 n3 (rfl) hx65) (fun w' hb => nxt hG hb) (fun _ _ => rfl)
      · intro u W hG hf
        have f62 : u 39 = .agg #[.bool a1, .string s1] := hf 39 (by decide)
        have e62 := frm_head (ds := [23, 24, 25, 26, 27, 28, 29, 30, 31, 32, 33, 34, 35, 36, 37, 38, 39, 40, 41, 42, 43, 44, 45, 46, 47, 48, 49, 50, 51, 52, 53, 54, 55, 56, 57, 58, 59, 60, 61, 62, 63, 64, 65, 66, 67, 68, 69, 70, 71, 72, 73, 74]) (u := u) (k := 62) (i := 39) (by rw [hN]; decide) rfl f62
        have f66 : u 43 = .agg #[.bool (neg (y * z)), .string (mag (y * z))] := hf 43 (by decide)
        have e66 := frm_head (ds := [23, 24, 25, 26, 27, 28, 29, 30, 31, 32, 33, 34, 35, 36, 37, 38, 39, 40, 41, 42, 43, 44, 45, 46, 47, 48, 49, 50, 51, 52, 53, 54, 55, 56, 57, 58, 59, 60, 61, 62, 63, 64, 65, 66, 67, 68, 69, 70, 71, 72, 73, 74]) (u := u) (k := 66) (i := 43) (by rw [hN]; decide) rfl f66
        have fg : u 38 = .bool false := hf 38 (by decide)
        generalize (frm A [23, 24, 25, 26, 27, 28, 29, 30, 31, 32, 33, 34, 35, 36, 37, 38, 39, 40, 41, 42, 43, 44, 45, 46, 47, 48, 49, 50, 51, 52, 53, 54, 55, 56, 57, 58, 59, 60, 61, 62, 63, 64, 65, 66, 67, 68, 69, 70, 71, 72, 73, 74] u).eval = ev at *
        refine k_new (.slice (some ⟨W.heap.size, 0, none⟩) 2 2) (.cells #[.bool a1, .string s1, .bool (neg (y * z)), .string (mag (y * z))] 26) ⟨_, fg, rfl⟩ ?_ (nxtA hG _) ⟨_, rfl, below_le hG, Bx.new _ _ _⟩ rfl
        simp [go_sem, e62, e66]
      · intro u W hG hf
        obtain ⟨g67, f67, hb67, hx67⟩ : sliK w2.heap.size 26 2 #[.bool a1, .string s1, .bool (neg (y * z)), .string (mag (y * z))] (u 44) W := hf 44 (by decide)
        have e67 := frm_head (ds := [23, 24, 25, 26, 27, 28, 29, 30, 31, 32, 33, 34, 35, 36, 37, 38, 39, 40, 41, 42, 43, 44, 45, 46, 47, 48, 49, 50, 51, 52, 53, 54, 55, 56, 57, 58, 59, 60, 61, 62, 63, 64, 65, 66, 67, 68, 69, 70, 71, 72, 73, 74]) (u := u) (k := 67) (i := 44) (by rw [hN]; decide) rfl f67
        have fg : u 38 = .bool false := hf 38 (by decide)
        have ef : ∀ f, (frm A [23, 24, 25, 26, 27, 28, 29, 30, 31, 32, 33, 34, 35, 36, 37, 38, 39, 40, 41, 42, 43, 44, 45, 46, 47, 48, 49, 50, 51, 52, 53, 54, 55, 56, 57, 58, 59, 60, 61, 62, 63, 64, 65, 66, 67, 68, 69, 70, 71, 72, 73, 74] u).eval (.func f) = .func (.func f) #[] #[] := fun _ => rfl
        generalize (frm A [23, 24, 25, 26, 27, 28, 29, 30, 31, 32, 33, 34, 35, 36, 37, 38, 39, 40, 41, 42, 43, 44, 45, 46, 47, 48, 49, 50, 51, 52, 53, 54, 55, 56, 57, 58, 59, 60, 61, 62, 63, 64, 65, 66, 67, 68, 69, 70, 71, 72, 73, 74] u).eval = ev at *
        exact k_call _ _ ⟨_, fg, rfl⟩ rfl (by simp [go_sem, ef, e67]) (wMul2N n1 nYZ ((Int.mul_assoc x y z).symm) hx67) (fun w' hb => nxt hG hb) (fun _ _ => rfl)
      · intro u W hG hf
        have e8 := frm_base (ds := [23, 24, 25, 26, 27, 28, 29, 30, 31, 32, 33, 34, 35, 36, 37, 38, 39, 40, 41, 42, 43, 44, 45, 46, 47, 48, 49, 50, 51, 52, 53, 54, 55, 56, 57, 58, 59, 60, 61, 62, 63, 64, 65, 66, 67, 68, 69, 70, 71, 72, 73, 74]) (u := u) (k := 8) (by rw [hN]; decide) rfl q8
        have fg : u 38 = .bool false := hf 38 (by decide)
        generalize (frm A [23, 24, 25, 26, 27, 28, 29, 30, 31, 32, 33, 34, 35, 36, 37, 38, 39, 40, 41, 42, 43, 44, 45, 46, 47, 48, 49, 50, 51, 52, 53, 54, 55, 56, 57, 58, 59, 60, 61, 62, 63, 64, 65, 66, 67, 68, 69, 70, 71, 72, 73, 74] u).eval = ev at *
        have hx := Z8.later hG
        have y0 := hx.cel 0
        have y1 := hx.cel 1
        simp at y0 y1
        refine k_val (.agg #[.bool (neg (x * y)), .string (mag (x * y))]) ⟨_, fg, rfl⟩ rfl hG ?_ rfl
        simp [go_sem, e8, y0, y1]
      · intro u W hG hf
        have e5 := frm_base (ds := [23, 24, 25, 26, 27, 28, 29, 30, 31, 32, 33, 34, 35, 36, 37, 38, 39, 40, 41, 42, 43, 44, 45, 46, 47, 48, 49, 50, 51, 52, 53, 54, 55, 56, 57, 58, 59, 60, 61, 62, 63, 64, 65, 66, 67, 68, 69, 70, 71, 72, 73, 74]) (u := u) (k := 5) (by rw [hN]; decide) rfl q5
        have fg : u 38 = .bool false := hf 38 (by decide)
        generalize (frm A [23, 24, 25, 26, 27, 28, 29, 30, 31, 32, 33, 34, 35, 36, 37, 38, 39, 40, 41, 42, 43, 44, 45, 46, 47, 48, 49, 50, 51, 52, 53, 54, 55, 56, 57, 58, 59, 60, 61, 62, 63, 64, 65, 66, 67, 68, 69, 70, 71, 72, 73, 74] u).eval = ev at *
        have hx := Z3.later hG
        have y0 := hx.cel 0
        have y1 := hx.cel 1
        simp at y0 y1
        refine k_val (.agg #[.bool a3, .string s3]) ⟨_, fg, rfl⟩ rfl hG ?_ rfl
        simp [go_sem, e5, y0, y1]
      · intro u W hG hf
        have f69 : u 46 = .agg #[.bool (neg (x * y)), .string (mag (x * y))] := hf 46 (by decide)
        have e69 := frm_head (ds := [23, 24, 25, 26, 27, 28, 29, 30, 31, 32, 33, 34, 35, 36, 37, 38, 39, 40, 41, 42, 43, 44, 45, 46, 47, 48, 49, 50, 51, 52, 53, 54, 55, 56, 57, 58, 59, 60, 61, 62, 63, 64, 65, 66, 67, 68, 69, 70, 71, 72, 73, 74]) (u := u) (k := 69) (i := 46) (by rw [hN]; decide) rfl f69
        have f70 : u 47 = .agg #[.bool a3, .string s3] := hf 47 (by decide)
        have e70 := frm_head (ds := [23, 24, 25, 26, 27, 28, 29, 30, 31, 32, 33, 34, 35, 36, 37, 38, 39, 40, 41, 42, 43, 44, 45, 46, 47, 48, 49, 50, 51, 52, 53, 54, 55, 56, 57, 58, 59, 60, 61, 62, 63, 64, 65, 66, 67, 68, 69, 70, 71, 72, 73, 74]) (u := u) (k := 70) (i := 47) (by rw [hN]; decide) rfl f70
        have fg : u 38 = .bool false := hf 38 (by decide)
        generalize (frm A [23, 24, 25, 26, 27, 28, 29, 30, 31, 32, 33, 34, 35, 36, 37, 38, 39, 40, 41, 42, 43, 44, 45, 46, 47, 48, 49, 50, 51, 52, 53, 54, 55, 56, 57, 58, 59, 60, 61, 62, 63, 64, 65, 66, 67, 68, 69, 70, 71, 72, 73, 74] u).eval = ev at *
        refine k_new (.slice (some ⟨W.heap.size, 0, none⟩) 2 2) (.cells #[.bool (neg (x * y)), .string (mag (x * y)), .bool a3, .string s3] 26) ⟨_, fg, rfl⟩ ?_ (nxtA hG _) ⟨_, rfl, below_le hG, Bx.new _ _ _⟩ rfl
        simp [go_sem, e69, e70]
      · intro u W hG hf
        obtain ⟨g71, f71, hb71, hx71⟩ : sliK w2.heap.size 26 2 #[.bool (neg (x * y)), .string (mag (x * y)), .bool a3, .string s3] (u 48) W := hf 48 (by decide)
        have e71 := frm_head (ds := [23, 24, 25, 26, 27, 28, 29, 30, 31, 32, 33, 34, 35, 36, 37, 38, 39, 40, 41, 42, 43, 44, 45, 46, 47, 48, 49, 50, 51, 52, 53, 54, 55, 56, 57, 58, 59, 60, 61, 62, 63, 64, 65, 66, 67, 68, 69, 70, 71, 72, 73, 74]) (u := u) (k := 71) (i := 48) (by rw [hN]; decide) rfl f71
        have fg : u 38 = .bool false := hf 38 (by decide)
        have ef : ∀ f, (frm A [23, 24, 25, 26, 27, 28, 29, 30, 31, 32, 33, 34, 35, 36, 37, 38, 39, 40, 41, 42, 43, 44, 45, 46, 47, 48, 49, 50, 51, 52, 53, 54, 55, 56, 57, 58, 59, 60, 61, 62, 63, 64, 65, 66, 67, 68, 69, 70, 71, 72, 73, 74] u).eval (.func f) = .func (.func f) #[] #[] := fun _ => rfl
        generalize (frm A [23, 24, 25, 26, 27, 28, 29, 30, 31, 32, 33, 34, 35, 36, 37, 38, 39, 40, 41, 42, 43, 44, 45, 46, 47, 48, 49, 50, 51, 52, 53, 54, 55, 56, 57, 58, 59, 60, 61, 62, 63, 64, 65, 66, 67, 68, 69, 70, 71, 72, 73, 74] u).eval = ev at *
        exact k_call _ _ ⟨_, fg, rfl⟩ rfl (by simp [go_sem, ef, e71]) (wMul2N nP n3 (rfl) hx71) (fun w' hb => nxt hG hb) (fun _ _ => rfl)
      · intro u W hG hf
        have f68 : u 45 = .agg #[.bool (neg (x * y * z)), .string (mag (x * y * z))] := hf 45 (by decide)
        have e68 := frm_head (ds := [23, 24, 25, 26, 27, 28, 29, 30, 31, 32, 33, 34, 35, 36, 37, 38, 39, 40, 41, 42, 43, 44, 45, 46, 47, 48, 49, 50, 51, 52, 53, 54, 55, 56, 57, 58, 59, 60, 61, 62, 63, 64, 65, 66, 67, 68, 69, 70, 71, 72, 73, 74]) (u := u) (k := 68) (i := 45) (by rw [hN]; decide) rfl f68
        have f72 : u 49 = .agg #[.bool (neg (x * y * z)), .string (mag (x * y * z))] := hf 49 (by decide)
        have e72 := frm_head (ds := [23, 24, 25, 26, 27, 28, 29, 30, 31, 32, 33, 34, 35, 36, 37, 38, 39, 40, 41, 42, 43, 44, 45, 46, 47, 48, 49, 50, 51, 52, 53, 54, 55, 56, 57, 58, 59, 60, 61, 62, 63, 64, 65, 66, 67, 68, 69, 70, 71, 72, 73, 74]) (u := u) (k := 72) (i := 49) (by rw [hN]; decide) rfl f72
        have fg : u 38 = .bool false := hf 38 (by decide)
        generalize (frm A [23, 24, 25, 26, 27, 28, 29, 30, 31, 32, 33, 34, 35, 36, 37, 38, 39, 40, 41, 42, 43, 44, 45, 46, 47, 48, 49, 50, 51, 52, 53, 54, 55, 56, 57, 58, 59, 60, 61, 62, 63, 64, 65, 66, 67, 68, 69, 70, 71, 72, 73, 74] u).eval = ev at *
        refine k_val (.bool false) ⟨_, fg, rfl⟩ rfl hG ?_ rfl
        simp [go_sem, e68, e72]
      · intro u W hG hf
        have f61 : u 38 = .bool false := hf 38 (by decide)
        have e61 := frm_head (ds := [23, 24, 25, 26, 27, 28, 29, 30, 31, 32, 33, 34, 35, 36, 37, 38, 39, 40, 41, 42, 43, 44, 45, 46, 47, 48, 49, 50, 51, 52, 53, 54, 55, 56, 57, 58, 59, 60, 61, 62, 63, 64, 65, 66, 67, 68, 69, 70, 71, 72, 73, 74]) (u := u) (k := 61) (i := 38) (by rw [hN]; decide) rfl f61
        have f73 : u 50 = .bool false := hf 50 (by decide)
        have e73 := frm_head (ds := [23, 24, 25, 26, 27, 28, 29, 30, 31, 32, 33, 34, 35, 36, 37, 38, 39, 40, 41, 42, 43, 44, 45, 46, 47, 48, 49, 50, 51, 52, 53, 54, 55, 56, 57, 58, 59, 60, 61, 62, 63, 64, 65, 66, 67, 68, 69, 70, 71, 72, 73, 74]) (u := u) (k := 73) (i := 50) (by rw [hN]; decide) rfl f73
        generalize (frm A [23, 24, 25, 26, 27, 28, 29, 30, 31, 32, 33, 34, 35, 36, 37, 38, 39, 40, 41, 42, 43, 44, 45, 46, 47, 48, 49, 50, 51, 52, 53, 54, 55, 56, 57, 58, 59, 60, 61, 62, 63, 64, 65, 66, 67, 68, 69, 70, 71, 72, 73, 74] u).eval = ev at *
        refine k_val (.bool false) rfl rfl hG ?_ rfl
        simp [go_sem, e61, e73]
    case hlate =>
      intro A _
      exact ⟨trivial, trivial, trivial, trivial, trivial, trivial, trivial, trivial, trivial, trivial, trivial, trivial, trivial, trivial, trivial, trivial, trivial, trivial, trivial, trivial, trivial, trivial, trivial, trivial, trivial, trivial, trivial, trivial, trivial, trivial, trivial, trivial, trivial, trivial, trivial, trivial, trivial, trivial, trivial, trivial, trivial, trivial, trivial, trivial, trivial, trivial, trivial, trivial, trivial, trivial, trivial, trivial, trivial⟩
    case htail =>
      intro u w3 hG hP _
      have f74 : u 51 = .bool false := hP 51 (by decide)
      simp only [putAll, Act.put, List.setIfInBounds_toArray, List.set_cons_zero, List.set_cons_succ, List.length_cons, List.length_nil, Nat.reduceAdd, List.drop_succ_cons, List.drop_zero, f74]
      replace hB := nxt hB hG
      replace Z1 := Z1.later hG
      replace Z2 := Z2.later hG
      replace Z3 := Z3.later hG
      replace Z7 := Z7.later hG
      replace Z8 := Z8.later hG
      have HK := Lib.hid (And.intro Z7 (And.intro Z8 (And.intro Z1 (And.intro Z2 (And.intro Z3 hB)))))
      clear f74 hP hG hB Z7 Z8 Z1 Z2 Z3 nS nP nYZ nXZ nX n1 n2 n3
      go_upto_region 6 with (fail)
      obtain ⟨Z7, Z8, Z1, Z2, Z3, hB⟩ := HK.out
      obtain ⟨nS, nP, nYZ, nXZ, nX, n1, n2, n3⟩ := NS.out
      refine wp_region_know [75, 76, 77, 78, 79, 80, 81, 82, 83, 84, 85, 86, 87, 88, 89, 90, 91, 92, 93, 94, 95, 96, 97, 98, 99, 100, 101, 102, 103, 104, 105, 106, 107, 108, 109, 110, 111, 112, 113, 114, 115, 116, 117, 118, 119, 120, 121, 6] (fun W => Below w3.heap.size w3 W) (kAt [eqK (.agg #[.bool (neg (x + y)), .string (mag (x + y))]), eqK (.agg #[.bool a3, .string s3]), sliK w3.heap.size 26 2 #[.bool (neg (x + y)), .string (mag (x + y)), .bool a3, .string s3], eqK (.agg #[.bool (neg ((x + y) * z)), .string (mag ((x + y) * z))]), eqK (.agg #[.bool a1, .string s1]), eqK (.agg #[.bool a3, .string s3]), sliK w3.heap.size 26 2 #[.bool a1, .string s1, .bool a3, .string s3], eqK (.agg #[.bool (neg (x * z)), .string (mag (x * z))]), eqK (.agg #[.bool a2, .string s2]), eqK (.agg #[.bool a3, .string s3]), sliK w3.heap.size 26 2 #[.bool a2, .string s2, .bool a3, .string s3], eqK (.agg #[.bool (neg (y * z)), .string (mag (y * z))]), sliK w3.heap.size 26 2 #[.bool (neg (x * z)), .string (mag (x * z)), .bool (neg (y * z)), .string (mag (y * z))], eqK (.agg #[.bool (neg ((x + y) * z)), .string (mag ((x + y) * z))]), eqK (.bool true), eqK (.bool true), eqK (.agg #[.bool a1, .string s1]), eqK (.agg #[.bool a1, .string s1]), eqK (.agg #[.bool (neg (-x)), .string (mag (-x))]), sliK w3.heap.size 26 2 #[.bool a1, .string s1, .bool (neg (-x)), .string (mag (-x))], eqK (.agg #[.bool false, .string ⟨#[]⟩]), eqK (.agg #[.bool false, .string ⟨#[]⟩]), eqK (.bool true), eqK (.bool true), eqK (.bool true), eqK (.agg #[.bool (neg (x + y)), .string (mag (x + y))]), eqK (.agg #[.bool a2, .string s2]), eqK (.agg #[.bool (neg (x)), .string (mag (x))]), eqK (.agg #[.bool a1, .string s1]), eqK (.agg #[.bool (neg (x)), .string (mag (x))]), eqK (.bool true), eqK (.bool true), eqK (.bool true), eqK (.agg #[.bool (neg (x + y)), .string (mag (x + y))]), eqK (.agg #[.bool (neg (x + y)), .string (mag (x + y))]), eqK (.agg #[.bool (neg (x + y)), .string (mag (x + y))]), eqK (.bool true), eqK (.bool true), eqK (.bool true), eqK (.agg #[.bool (neg (x * y)), .string (mag (x * y))]), eqK (.agg #[.bool (neg (x * y)), .string (mag (x * y))]), eqK (.agg #[.bool (neg (x * y)), .string (mag (x * y))]), eqK (.bool true), eqK (.bool true), eqK (.bool true), eqK (.bool true), eqK (.bool true), eqK (.bool true)])
        (fun _ => true) (fun i => i == 2 || i == 6 || i == 10 || i == 12 || i == 19) (by kernel_rfl) (by kernel_rfl) (fun _ _ _ _ _ h => h) (by kernel_rfl) (by kernel_rfl) 122 rfl (by kernel_rfl) (by kernel_rfl) ?hG (fun i v w w' hi => kAt_stab (by exact ⟨stab_eq _, stab_eq _, stab_sli _ _ _ _, stab_eq _, stab_eq _, stab_eq _, stab_sli _ _ _ _, stab_eq _, stab_eq _, stab_eq _, stab_sli _ _ _ _, stab_eq _, stab_sli _ _ _ _, stab_eq _, stab_eq _, stab_eq _, stab_eq _, stab_eq _, stab_eq _, stab_sli _ _ _ _, stab_eq _, stab_eq _, stab_eq _, stab_eq _, stab_eq _, stab_eq _, stab_eq _, stab_eq _, stab_eq _, stab_eq _, stab_eq _, stab_eq _, stab_eq _, stab_eq _, stab_eq _, stab_eq _, stab_eq _, stab_eq _, stab_eq _, stab_eq _, stab_eq _, stab_eq _, stab_eq _, stab_eq _, stab_eq _, stab_eq _, stab_eq _, stab_eq _, trivial⟩) _ i v w w' hi) (fun i v w hi hf h => kAt_fresh (k := 0) (fr := fun i => i == 2 || i == 6 || i == 10 || i == 12 || i == 19) (by exact ⟨fun h => absurd h (by decide), fun h => absurd h (by decide), fun _ => fresh_sli, fun h => absurd h (by decide), fun h => absurd h (by decide), fun h => absurd h (by decide), fun _ => fresh_sli, fun h => absurd h (by decide), fun h => absurd h (by decide), fun h => absurd h (by decide), fun _ => fresh_sli, fun h => absurd h (by decide), fun _ => fresh_sli, fun h => absurd h (by decide), fun h => absurd h (by decide), fun h => absurd h (by decide), fun h => absurd h (by decide), fun h => absurd h (by decide), fun h => absurd h (by decide), fun _ => fresh_sli, fun h => absurd h (by decide), fun h => absurd h (by decide), fun h => absurd h (by decide), fun h => absurd h (by decide), fun h => absurd h (by decide), fun h => absurd h (by decide), fun h => absurd h (by decide), fun h => absurd h (by decide), fun h => absurd h (by decide), fun h => absurd h (by decide), fun h => absurd h (by decide), fun h => absurd h (by decide), fun h => absurd h (by decide), fun h => absurd h (by decide), fun h => absurd h (by decide), fun h => absurd h (by decide), fun h => absurd h (by decide), fun h => absurd h (by decide), fun h => absurd h (by decide), fun h => absurd h (by decide), fun h => absurd h (by decide), fun h => absurd h (by decide), fun h => absurd h (by decide), fun h => absurd h (by decide), fun h => absurd h (by decide), fun h => absurd h (by decide), fun h => absurd h (by decide), fun h => absurd h (by decide), trivial⟩) i v w hi (by rw [Nat.zero_add]; exact hf) h) ?hop ?hlate ?htail
      case hG => exact (Below.refl _ _).drew
      case hop =>
        intro A hA
        have hN : A.tmps.size = 122 := by rw [hA]; rfl
        have q3 : A.tmps.getD 3 undef = .pointer (some ⟨w.heap.size, 0, none⟩) := by rw [hA]; rfl
        have q4 : A.tmps.getD 4 undef = .pointer (some ⟨w.heap.size + 1, 0, none⟩) := by rw [hA]; rfl
        have q5 : A.tmps.getD 5 undef = .pointer (some ⟨w.heap.size + 2, 0, none⟩) := by rw [hA]; rfl
        have q7 : A.tmps.getD 7 undef = .pointer (some ⟨g7, 0, none⟩) := by rw [hA]; rfl
        have q8 : A.tmps.getD 8 undef = .pointer (some ⟨g8, 0, none⟩) := by rw [hA]; rfl
        clear hA
        refine ⟨?_, ?_, ?_, ?_, ?_, ?_, ?_, ?_, ?_, ?_, ?_, ?_, ?_, ?_, ?_, ?_, ?_, ?_, ?_, ?_, ?_, ?_, ?_, ?_, ?_, ?_, ?_, ?_, ?_, ?_, ?_, ?_, ?_, ?_, ?_, ?_, ?_, ?_, ?_, ?_, ?_, ?_, ?_, ?_, ?_, ?_, ?_, ?_, trivial⟩
        · intro u W hG hf
          have e7 := frm_base (ds := [75, 76, 77, 78, 79, 80, 81, 82, 83, 84, 85, 86, 87, 88, 89, 90, 91, 92, 93, 94, 95, 96, 97, 98, 99, 100, 101, 102, 103, 104, 105, 106, 107, 108, 109, 110, 111, 112, 113, 114, 115, 116, 117, 118, 119, 120, 121, 6]) (u := u) (k := 7) (by rw [hN]; decide) rfl q7
          generalize (frm A [75, 76, 77, 78, 79, 80, 81, 82, 83, 84, 85, 86, 87, 88, 89, 90, 91, 92, 93, 94, 95, 96, 97, 98, 99, 100, 101, 102, 103, 104, 105, 106, 107, 108, 109, 110, 111, 112, 113, 114, 115, 116, 117, 118, 119, 120, 121, 6] u).eval = ev at *
          have hx := Z7.later hG
          have y0 := hx.cel 0
          have y1 := hx.cel 1
          simp at y0 y1
          refine k_val (.agg #[.bool (neg (x + y)), .string (mag (x + y))]) rfl rfl hG ?_ rfl
          simp [go_sem, e7, y0, y1]
        · intro u W hG hf
          have e5 := frm_base (ds := [75, 76, 77, 78, 79, 80, 81, 82, 83, 84, 85, 86, 87, 88, 89, 90, 91, 92, 93, 94, 95, 96, 97, 98, 99, 100, 101, 102, 103, 104, 105, 106, 107, 108, 109, 110, 111, 112, 113, 114, 115, 116, 117, 118, 119, 120, 121, 6]) (u := u) (k := 5) (by rw [hN]; decide) rfl q5
          generalize (frm A [75, 76, 77, 78, 79, 80, 81, 82, 83, 84, 85, 86, 87, 88, 89, 90, 91, 92, 93, 94, 95, 96, 97, 98, 99, 100, 101, 102, 103, 104, 105, 106, 107, 108, 109, 110, 111, 112, 113, 114, 115, 116, 117, 118, 119, 120, 121, 6] u).eval = ev at *
          have hx := Z3.later hG
          have y0 := hx.cel 0
          have y1 := hx.cel 1
          simp at y0 y1
          refine k_val (.agg #[.bool a3, .string s3]) rfl rfl hG ?_ rfl
          simp [go_sem, e5, y0, y1]
        · intro u W hG hf
          have f75 : u 0 = .agg #[.bool (neg (x + y)), .string (mag (x + y))] := hf 0 (by decide)
          have e75 := frm_head (ds := [75, 76, 77, 78, 79, 80, 81, 82, 83, 84, 85, 86, 87, 88, 89, 90, 91, 92, 93, 94, 95, 96, 97, 98, 99, 100, 101, 102, 103, 104, 105, 106, 107, 108, 109, 110, 111, 112, 113, 114, 115, 116, 117, 118, 119, 120, 121, 6]) (u := u) (k := 75) (i := 0) (by rw [hN]; decide) rfl f75
          have f76 : u 1 = .agg #[.bool a3, .string s3] := hf 1 (by decide)
          have e76 := frm_head (ds := [75, 76, 77, 78, 79, 80, 81, 82, 83, 84, 85, 86, 87, 88, 89, 90, 91, 92, 93, 94, 95, 96, 97, 98, 99, 100, 101, 102, 103, 104, 105, 106, 107, 108, 109, 110, 111, 112, 113, 114, 115, 116, 117, 118, 119, 120, 121, 6]) (u := u) (k := 76) (i := 1) (by rw [hN]; decide) rfl f76
          generalize (frm A [75, 76, 77, 78, 79, 80, 81, 82, 83, 84, 85, 86, 87, 88, 89, 90, 91, 92, 93, 94, 95, 96, 97, 98, 99, 100, 101, 102, 103, 104, 105, 106, 107, 108, 109, 110, 111, 112, 113, 114, 115, 116, 117, 118, 119, 120, 121, 6] u).eval = ev at *
          refine k_new (.slice (some ⟨W.heap.size, 0, none⟩) 2 2) (.cells #[.bool (neg (x + y)), .string (mag (x + y)), .bool a3, .string s3] 26) rfl ?_ (nxtA hG _) ⟨_, rfl, below_le hG, Bx.new _ _ _⟩ rfl
          simp [go_sem, e75, e76]
        · intro u W hG hf
          obtain ⟨g77, f77, hb77, hx77⟩ : sliK w3.heap.size 26 2 #[.bool (neg (x + y)), .string (mag (x + y)), .bool a3, .string s3] (u 2) W := hf 2 (by decide)
          have e77 := frm_head (ds := [75, 76, 77, 78, 79, 80, 81, 82, 83, 84, 85, 86, 87, 88, 89, 90, 91, 92, 93, 94, 95, 96, 97, 98, 99, 100, 101, 102, 103, 104, 105, 106, 107, 108, 109, 110, 111, 112, 113, 114, 115, 116, 117, 118, 119, 120, 121, 6]) (u := u) (k := 77) (i := 2) (by rw [hN]; decide) rfl f77
          have ef : ∀ f, (frm A [75, 76, 77, 78, 79, 80, 81, 82, 83, 84, 85, 86, 87, 88, 89, 90, 91, 92, 93, 94, 95, 96, 97, 98, 99, 100, 101, 102, 103, 104, 105, 106, 107, 108, 109, 110, 111, 112, 113, 114, 115, 116, 117, 118, 119, 120, 121, 6] u).eval (.func f) = .func (.func f) #[] #[] := fun _ => rfl
          generalize (frm A [75, 76, 77, 78, 79, 80, 81, 82, 83, 84, 85, 86, 87, 88, 89, 90, 91, 92, 93, 94, 95, 96, 97, 98, 99, 100, 101, 102, 103, 104, 105, 106, 107, 108, 109, 110, 111, 112, 113, 114, 115, 116, 117, 118, 119, 120, 121, 6] u).eval = ev at *
          exact k_call _ _ rfl rfl (by simp [go_sem, ef, e77]) (wMul2N nS n3 (rfl) hx77) (fun w' hb => nxt hG hb) (fun _ _ => rfl)
        · intro u W hG hf
          have e3 := frm_base (ds := [75, 76, 77, 78, 79, 80, 81, 82, 83, 84, 85, 86, 87, 88, 89, 90, 91, 92, 93, 94, 95, 96, 97, 98, 99, 100, 101, 102, 103, 104, 105, 106, 107, 108, 109, 110, 111, 112, 113, 114, 115, 116, 117, 118, 119, 120, 121, 6]) (u := u) (k := 3) (by rw [hN]; decide) rfl q3
          generalize (frm A [75, 76, 77, 78, 79, 80, 81, 82, 83, 84, 85, 86, 87, 88, 89, 90, 91, 92, 93, 94, 95, 96, 97, 98, 99, 100, 101, 102, 103, 104, 105, 106, 107, 108, 109, 110, 111, 112, 113, 114, 115, 116, 117, 118, 119, 120, 121, 6] u).eval = ev at *
          have hx := Z1.later hG
          have y0 := hx.cel 0
          have y1 := hx.cel 1
          simp at y0 y1
          refine k_val (.agg #[.bool a1, .string s1]) rfl rfl hG ?_ rfl
          simp [go_sem, e3, y0, y1]
        · intro u W hG hf
          have e5 := frm_base (ds := [75, 76, 77, 78, 79, 80, 81, 82, 83, 84, 85, 86, 87, 88, 89, 90, 91, 92, 93, 94, 95, 96, 97, 98, 99, 100, 101, 102, 103, 104, 105, 106, 107, 108, 109, 110, 111, 112, 113, 114, 115, 116, 117, 118, 119, 120, 121, 6]) (u := u) (k := 5) (by rw [hN]; decide) rfl q5
          generalize (frm A [75, 76, 77, 78, 79, 80, 81, 82, 83, 84, 85, 86, 87, 88, 89, 90, 91, 92, 93, 94, 95, 96, 97, 98, 99, 100, 101, 102, 103, 104, 105, 106, 107, 108, 109, 110, 111, 112, 113, 114, 115, 116, 117, 118, 119, 120, 121, 6] u).eval = ev at *
          have hx := Z3.later hG
          have y0 := hx.cel 0
          have y1 := hx.cel 1
          simp at y0 y1
          refine k_val (.agg #[.bool a3, .string s3]) rfl rfl hG ?_ rfl
          simp [go_sem, e5, y0, y1]
        · intro u W hG hf
          have f79 : u 4 = .agg #[.bool a1, .string s1] := hf 4 (by decide)
          have e79 := frm_head (ds := [75, 76, 77, 78, 79, 80, 81, 82, 83, 84, 85, 86, 87, 88, 89, 90, 91, 92, 93, 94, 95, 96, 97, 98, 99, 100, 101, 102, 103, 104, 105, 106, 107, 108, 109, 110, 111, 112, 113, 114, 115, 116, 117, 118, 119, 120, 121, 6]) (u := u) (k := 79) (i := 4) (by rw [hN]; decide) rfl f79
          have f80 : u 5 = .agg #[.bool a3, .string s3] := hf 5 (by decide)
          have e80 := frm_head (ds := [75, 76, 77, 78, 79, 80, 81, 82, 83, 84, 85, 86, 87, 88, 89, 90, 91, 92, 93, 94, 95, 96, 97, 98, 99, 100, 101, 102, 103, 104, 105, 106, 107, 108, 109, 110, 111, 112, 113, 114, 115, 116, 117, 118, 119, 120, 121, 6]) (u := u) (k := 80) (i := 5) (by rw [hN]; decide) rfl f80
          generalize (frm A [75, 76, 77, 78, 79, 80, 81, 82, 83, 84, 85, 86, 87, 88, 89, 90, 91, 92, 93, 94, 95, 96, 97, 98, 99, 100, 101, 102, 103, 104, 105, 106, 107, 108, 109, 110, 111, 112, 113, 114, 115, 116, 117, 118, 119, 120, 121, 6] u).eval = ev at *
          refine k_new (.slice (some ⟨W.heap.size, 0, none⟩) 2 2) (.cells #[.bool a1, .string s1, .bool a3, .string s3] 26) rfl ?_ (nxtA hG _) ⟨_, rfl, below_le hG, Bx.new _ _ _⟩ rfl
          simp [go_sem, e79, e80]
        · intro u W hG hf
          obtain ⟨g81, f81, hb81, hx81⟩ : sliK w3.heap.size 26 2 #[.bool a1, .string s1, .bool a3, .string s3] (u 6) W := hf 6 (by decide)
          have e81 := frm_head (ds := [75, 76, 77, 78, 79, 80, 81, 82, 83, 84, 85, 86, 87, 88, 89, 90, 91, 92, 93, 94, 95, 96, 97, 98, 99, 100, 101, 102, 103, 104, 105, 106, 107, 108, 109, 110, 111, 112, 113, 114, 115, 116, 117, 118, 119, 120, 121, 6]) (u := u) (k := 81) (i := 6) (by rw [hN]; decide) rfl f81
          have ef : ∀ f, (frm A [75, 76, 77, 78, 79, 80, 81, 82, 83, 84, 85, 86, 87, 88, 89, 90, 91, 92, 93, 94, 95, 96, 97, 98, 99, 100, 101, 102, 103, 104, 105, 106, 107, 108, 109, 110, 111, 112, 113, 114, 115, 116, 117, 118, 119, 120, 121, 6] u).eval (.func f) = .func (.func f) #[] #[] := fun _ => rfl
          generalize (frm A [75, 76, 77, 78, 79, 80, 81, 82, 83, 84, 85, 86, 87, 88, 89, 90, 91, 92, 93, 94, 95, 96, 97, 98, 99, 100, 101, 102, 103, 104, 105, 106, 107, 108, 109, 110, 111, 112, 113, 114, 115, 116, 117, 118, 119, 120, 121, 6] u).eval = ev at *
          exact k_call _ _ rfl rfl (by simp [go_sem, ef, e81]) (wMul2N n1 n3 (rfl) hx81) (fun w' hb => nxt hG hb) (fun _ _ => rfl)
        · intro u W hG hf
          have e4 := frm_base (ds := [75, 76, 77, 78, 79, 80, 81, 82, 83, 84, 85, 86, 87, 88, 89, 90, 91, 92, 93, 94, 95, 96, 97, 98, 99, 100, 101, 102, 103, 104, 105, 106, 107, 108, 109, 110, 111, 112, 113, 114, 115, 116, 117, 118, 119, 120, 121, 6]) (u := u) (k := 4) (by rw [hN]; decide) rfl q4
          generalize (frm A [75, 76, 77, 78, 79, 80, 81, 82, 83, 84, 85, 86, 87, 88, 89, 90, 91, 92, 93, 94, 95, 96, 97, 98, 99, 100, 101, 102, 103, 104, 105, 106, 107, 108, 109, 110, 111, 112, 113, 114, 115, 116, 117, 118, 119, 120, 121, 6] u).eval = ev at *
          have hx := Z2.later hG
          have y0 := hx.cel 0
          have y1 := hx.cel 1
          simp at y0 y1
          refine k_val (.agg #[.bool a2, .string s2]) rfl rfl hG ?_ rfl
          simp [go_sem, e4, y0, y1]
        · intro u W hG hf
          have e5 := frm_base (ds := [75, 76, 77, 78, 79, 80, 81, 82, 83, 84, 85, 86, 87, 88, 89, 90, 91, 92, 93, 94, 95, 96, 97, 98, 99, 100, 101, 102, 103, 104, 105, 106, 107, 108, 109, 110, 111, 112, 113, 114, 115, 116, 117, 118, 119, 120, 121, 6]) (u := u) (k := 5) (by rw [hN]; decide) rfl q5
          generalize (frm A [75, 76, 77, 78, 79, 80, 81, 82, 83, 84, 85, 86, 87, 88, 89, 90, 91, 92, 93, 94, 95, 96, 97, 98, 99, 100, 101, 102, 103, 104, 105, 106, 107, 108, 109, 110, 111, 112, 113, 114, 115, 116, 117, 118, 119, 120, 121, 6] u).eval = ev at *
          have hx := Z3.later hG
          have y0 := hx.cel 0
          have y1 := hx.cel 1
          simp at y0 y1
          refine k_val (.agg #[.bool a3, .string s3]) rfl rfl hG ?_ rfl
          simp [go_sem, e5, y0, y1]
        · intro u W hG hf
          have f83 : u 8 = .agg #[.bool a2, .string s2] := hf 8 (by decide)
          have e83 := frm_head (ds := [75, 76, 77, 78, 79, 80, 81, 82, 83, 84, 85, 86, 87, 88, 89, 90, 91, 92, 93, 94, 95, 96, 97, 98, 99, 100, 101, 102, 103, 104, 105, 106, 107, 108, 109, 110, 111, 112, 113, 114, 115, 116, 117, 118, 119, 120, 121, 6]) (u := u) (k := 83) (i := 8) (by rw [hN]; decide) rfl f83
          have f84 : u 9 = .agg #[.bool a3, .string s3] := hf 9 (by decide)
          have e84 := frm_head (ds := [75, 76, 77, 78, 79, 80, 81, 82, 83, 84, 85, 86, 87, 88, 89, 90, 91, 92, 93, 94, 95, 96, 97, 98, 99, 100, 101, 102, 103, 104, 105, 106, 107, 108, 109, 110, 111, 112, 113, 114, 115, 116, 117, 118, 119, 120, 121, 6]) (u := u) (k := 84) (i := 9) (by rw [hN]; decide) rfl f84
          generalize (frm A [75, 76, 77, 78, 79, 80, 81, 82, 83, 84, 85, 86, 87, 88, 89, 90, 91, 92, 93, 94, 95, 96, 97, 98, 99, 100, 101, 102, 103, 104, 105, 106, 107, 108, 109, 110, 111, 112, 113, 114, 115, 116, 117, 118, 119, 120, 121, 6] u).eval = ev at *
          refine k_new (.slice (some ⟨W.heap.size, 0, none⟩) 2 2) (.cells #[.bool a2, .string s2, .bool a3, .string s3] 26) rfl ?_ (nxtA hG _) ⟨_, rfl, below_le hG, Bx.new _ _ _⟩ rfl
          simp [go_sem, e83, e84]
        · intro u W hG hf
          obtain ⟨g85, f85, hb85, hx85⟩ : sliK w3.heap.size 26 2 #[.bool a2, .string s2, .bool a3, .string s3] (u 10) W := hf 10 (by decide)
          have e85 := frm_head (ds := [75, 76, 77, 78, 79, 80, 81, 82, 83, 84, 85, 86, 87, 88, 89, 90, 91, 92, 93, 94, 95, 96, 97, 98, 99, 100, 101, 102, 103, 104, 105, 106, 107, 108, 109, 110, 111, 112, 113, 114, 115, 116, 117, 118, 119, 120, 121, 6]) (u := u) (k := 85) (i := 10) (by rw [hN]; decide) rfl f85
          have ef : ∀ f, (frm A [75, 76, 77, 78, 79, 80, 81, 82, 83, 84, 85, 86, 87, 88, 89, 90, 91, 92, 93, 94, 95, 96, 97, 98, 99, 100, 101, 102, 103, 104, 105, 106, 107, 108, 109, 110, 111, 112, 113, 114, 115, 116, 117, 118, 119, 120, 121, 6] u).eval (.func f) = .func (.func f) #[] #[] := fun _ => rfl
          generalize (frm A [75, 76, 77, 78, 79, 80, 81, 82, 83, 84, 85, 86, 87, 88, 89, 90, 91, 92, 93, 94, 95, 96, 97, 98, 99, 100, 101, 102, 103, 104, 105, 106, 107, 108, 109, 110, 111, 112, 113, 114, 115, 116, 117, 118, 119, 120, 121, 6] u).eval = ev at *
          exact k_call _ _ rfl rfl (by simp [go_sem, ef, e85]) (wMul2N n2 n3 (rfl) hx85) (fun w' hb => nxt hG hb) (fun _ _ => rfl)
        · intro u W hG hf
          have f82 : u 7 = .agg #[.bool (neg (x * z)), .string (mag (x * z))] := hf 7 (by decide)
          have e82 := frm_head (ds := [75, 76, 77, 78, 79, 80, 81, 82, 83, 84, 85, 86, 87, 88, 89, 90, 91, 92, 93, 94, 95, 96, 97, 98, 99, 100, 101, 102, 103, 104, 105, 106, 107, 108, 109, 110, 111, 112, 113, 114, 115, 116, 117, 118, 119, 120, 121, 6]) (u := u) (k := 82) (i := 7) (by rw [hN]; decide) rfl f82
          have f86 : u 11 = .agg #[.bool (neg (y * z)), .string (mag (y * z))] := hf 11 (by decide)
          have e86 := frm_head (ds := [75, 76, 77, 78, 79, 80, 81, 82, 83, 84, 85, 86, 87, 88, 89, 90, 91, 92, 93, 94, 95, 96, 97, 98, 99, 100, 101, 102, 103, 104, 105, 106, 107, 108, 109, 110, 111, 112, 113, 114, 115, 116, 117, 118, 119, 120, 121, 6]) (u := u) (k := 86) (i := 11) (by rw [hN]; decide) rfl f86
          generalize (frm A [75, 76, 77, 78, 79, 80, 81, 82, 83, 84, 85, 86, 87, 88, 89, 90, 91, 92, 93, 94, 95, 96, 97, 98, 99, 100, 101, 102, 103, 104, 105, 106, 107, 108, 109, 110, 111, 112, 113, 114, 115, 116, 117, 118, 119, 120, 121, 6] u).eval = ev at *
          refine k_new (.slice (some ⟨W.heap.size, 0, none⟩) 2 2) (.cells #[.bool (neg (x * z)), .string (mag (x * z)), .bool (neg (y * z)), .string (mag (y * z))] 26) rfl ?_ (nxtA hG _) ⟨_, rfl, below_le hG, Bx.new _ _ _⟩ rfl
          simp [go_sem, e82, e86]
        · intro u W hG hf
          obtain ⟨g87, f87, hb87, hx87⟩ : sliK w3.heap.size 26 2 #[.bool (neg (x * z)), .string (mag (x * z)), .bool (neg (y * z)), .string (mag (y * z))] (u 12) W := hf 12 (by decide)
          have e87 := frm_head (ds := [75, 76, 77, 78, 79, 80, 81, 82, 83, 84, 85, 86, 87, 88, 89, 90, 91, 92, 93, 94, 95, 96, 97, 98, 99, 100, 101, 102, 103, 104, 105, 106, 107, 108, 109, 110, 111, 112, 113, 114, 115, 116, 117, 118, 119, 120, 121, 6]) (u := u) (k := 87) (i := 12) (by rw [hN]; decide) rfl f87
          have ef : ∀ f, (frm A [75, 76, 77, 78, 79, 80, 81, 82, 83, 84, 85, 86, 87, 88, 89, 90, 91, 92, 93, 94, 95, 96, 97, 98, 99, 100, 101, 102, 103, 104, 105, 106, 107, 108, 109, 110, 111, 112, 113, 114, 115, 116, 117, 118, 119, 120, 121, 6] u).eval (.func f) = .func (.func f) #[] #[] := fun _ => rfl
          generalize (frm A [75, 76, 77, 78, 79, 80, 81, 82, 83, 84, 85, 86, 87, 88, 89, 90, 91, 92, 93, 94, 95, 96, 97, 98, 99, 100, 101, 102, 103, 104, 105, 106, 107, 108, 109, 110, 111, 112, 113, 114, 115, 116, 117, 118, 119, 120, 121, 6] u).eval = ev at *
          exact k_call _ _ rfl rfl (by simp [go_sem, ef, e87]) (wAdd2N nXZ nYZ ((Int.add_mul x y z).symm) hx87) (fun w' hb => nxt hG hb) (fun _ _ => rfl)
        · intro u W hG hf
          have f78 : u 3 = .agg #[.bool (neg ((x + y) * z)), .string (mag ((x + y) * z))] := hf 3 (by decide)
          have e78 := frm_head (ds := [75, 76, 77, 78, 79, 80, 81, 82, 83, 84, 85, 86, 87, 88, 89, 90, 91, 92, 93, 94, 95, 96, 97, 98, 99, 100, 101, 102, 103, 104, 105, 106, 107, 108, 109, 110, 111, 112, 113, 114, 115, 116, 117, 118, 119, 120, 121, 6]) (u := u) (k := 78) (i := 3) (by rw [hN]; decide) rfl f78
          have f88 : u 13 = .agg #[.bool (neg ((x + y) * z)), .string (mag ((x + y) * z))] := hf 13 (by decide)
          have e88 := frm_head (ds := [75, 76, 77, 78, 79, 80, 81, 82, 83, 84, 85, 86, 87, 88, 89, 90, 91, 92, 93, 94, 95, 96, 97, 98, 99, 100, 101, 102, 103, 104, 105, 106, 107, 108, 109, 110, 111, 112, 113, 114, 115, 116, 117, 118, 119, 120, 121, 6]) (u := u) (k := 88) (i := 13) (by rw [hN]; decide) rfl f88
          generalize (frm A [75, 76, 77, 78, 79, 80, 81, 82, 83, 84, 85, 86, 87, 88, 89, 90, 91, 92, 93, 94, 95, 96, 97, 98, 99, 100, 101, 102, 103, 104, 105, 106, 107, 108, 109, 110, 111, 112, 113, 114, 115, 116, 117, 118, 119, 120, 121, 6] u).eval = ev at *
          refine k_val (.bool true) rfl rfl hG ?_ rfl
          simp [go_sem, e78, e88]
        · intro u W hG hf
          have f89 : u 14 = .bool true := hf 14 (by decide)
          have e89 := frm_head (ds := [75, 76, 77, 78, 79, 80, 81, 82, 83, 84, 85, 86, 87, 88, 89, 90, 91, 92, 93, 94, 95, 96, 97, 98, 99, 100, 101, 102, 103, 104, 105, 106, 107, 108, 109, 110, 111, 112, 113, 114, 115, 116, 117, 118, 119, 120, 121, 6]) (u := u) (k := 89) (i := 14) (by rw [hN]; decide) rfl f89
          generalize (frm A [75, 76, 77, 78, 79, 80, 81, 82, 83, 84, 85, 86, 87, 88, 89, 90, 91, 92, 93, 94, 95, 96, 97, 98, 99, 100, 101, 102, 103, 104, 105, 106, 107, 108, 109, 110, 111, 112, 113, 114, 115, 116, 117, 118, 119, 120, 121, 6] u).eval = ev at *
          refine k_val (.bool true) rfl rfl hG ?_ rfl
          simp [go_sem, e89]
        · intro u W hG hf
          have e3 := frm_base (ds := [75, 76, 77, 78, 79, 80, 81, 82, 83, 84, 85, 86, 87, 88, 89, 90, 91, 92, 93, 94, 95, 96, 97, 98, 99, 100, 101, 102, 103, 104, 105, 106, 107, 108, 109, 110, 111, 112, 113, 114, 115, 116, 117, 118, 119, 120, 121, 6]) (u := u) (k := 3) (by rw [hN]; decide) rfl q3
          have fg : u 15 = .bool true := hf 15 (by decide)
          generalize (frm A [75, 76, 77, 78, 79, 80, 81, 82, 83, 84, 85, 86, 87, 88, 89, 90, 91, 92, 93, 94, 95, 96, 97, 98, 99, 100, 101, 102, 103, 104, 105, 106, 107, 108, 109, 110, 111, 112, 113, 114, 115, 116, 117, 118, 119, 120, 121, 6] u).eval = ev at *
          have hx := Z1.later hG
          have y0 := hx.cel 0
          have y1 := hx.cel 1
          simp at y0 y1
          refine k_val (.agg #[.bool a1, .string s1]) ⟨_, fg, rfl⟩ rfl hG ?_ rfl
          simp [go_sem, e3, y0, y1]
        · intro u W hG hf
          have e3 := frm_base (ds := [75, 76, 77, 78, 79, 80, 81, 82, 83, 84, 85, 86, 87, 88, 89, 90, 91, 92, 93, 94, 95, 96, 97, 98, 99, 100, 101, 102, 103, 104, 105, 106, 107, 108, 109, 110, 111, 112, 113, 114, 115, 116, 117, 118, 119, 120, 121, 6]) (u := u) (k := 3) (by rw [hN]; decide) rfl q3
          have fg : u 15 = .bool true := hf 15 (by decide)
          generalize (frm A [75, 76, 77, 78, 79, 80, 81, 82, 83, 84, 85, 86, 87, 88, 89, 90, 91, 92, 93, 94, 95, 96, 97, 98, 99, 100, 101, 102, 103, 104, 105, 106, 107, 108, 109, 110, 111, 112, 113, 114, 115, 116, 117, 118, 119, 120, 121, 6] u).eval = ev at *
          have hx := Z1.later hG
          have y0 := hx.cel 0
          have y1 := hx.cel 1
          simp at y0 y1
          refine k_val (.agg #[.bool a1, .string s1]) ⟨_, fg, rfl⟩ rfl hG ?_ rfl
          simp [go_sem, e3, y0, y1]
        · intro u W hG hf
          have f92 : u 17 = .agg #[.bool a1, .string s1] := hf 17 (by decide)
          have e92 := frm_head (ds := [75, 76, 77, 78, 79, 80, 81, 82, 83, 84, 85, 86, 87, 88, 89, 90, 91, 92, 93, 94, 95, 96, 97, 98, 99, 100, 101, 102, 103, 104, 105, 106, 107, 108, 109, 110, 111, 112, 113, 114, 115, 116, 117, 118, 119, 120, 121, 6]) (u := u) (k := 92) (i := 17) (by rw [hN]; decide) rfl f92
          have fg : u 15 = .bool true := hf 15 (by decide)
          have ef : ∀ f, (frm A [75, 76, 77, 78, 79, 80, 81, 82, 83, 84, 85, 86, 87, 88, 89, 90, 91, 92, 93, 94, 95, 96, 97, 98, 99, 100, 101, 102, 103, 104, 105, 106, 107, 108, 109, 110, 111, 112, 113, 114, 115, 116, 117, 118, 119, 120, 121, 6] u).eval (.func f) = .func (.func f) #[] #[] := fun _ => rfl
          generalize (frm A [75, 76, 77, 78, 79, 80, 81, 82, 83, 84, 85, 86, 87, 88, 89, 90, 91, 92, 93, 94, 95, 96, 97, 98, 99, 100, 101, 102, 103, 104, 105, 106, 107, 108, 109, 110, 111, 112, 113, 114, 115, 116, 117, 118, 119, 120, 121, 6] u).eval = ev at *
          exact k_call _ _ ⟨_, fg, rfl⟩ rfl (by simp [go_sem, ef, e92]) (wNegN n1 (rfl)) (fun w' hb => nxt hG hb) (fun _ _ => rfl)
        · intro u W hG hf
          have f91 : u 16 = .agg #[.bool a1, .string s1] := hf 16 (by decide)
          have e91 := frm_head (ds := [75, 76, 77, 78, 79, 80, 81, 82, 83, 84, 85, 86, 87, 88, 89, 90, 91, 92, 93, 94, 95, 96, 97, 98, 99, 100, 101, 102, 103, 104, 105, 106, 107, 108, 109, 110, 111, 112, 113, 114, 115, 116, 117, 118, 119, 120, 121, 6]) (u := u) (k := 91) (i := 16) (by rw [hN]; decide) rfl f91
          have f93 : u 18 = .agg #[.bool (neg (-x)), .string (mag (-x))] := hf 18 (by decide)
          have e93 := frm_head (ds := [75, 76, 77, 78, 79, 80, 81, 82, 83, 84, 85, 86, 87, 88, 89, 90, 91, 92, 93, 94, 95, 96, 97, 98, 99, 100, 101, 102, 103, 104, 105, 106, 107, 108, 109, 110, 111, 112, 113, 114, 115, 116, 117, 118, 119, 120, 121, 6]) (u := u) (k := 93) (i := 18) (by rw [hN]; decide) rfl f93
          have fg : u 15 = .bool true := hf 15 (by decide)
          generalize (frm A [75, 76, 77, 78, 79, 80, 81, 82, 83, 84, 85, 86, 87, 88, 89, 90, 91, 92, 93, 94, 95, 96, 97, 98, 99, 100, 101, 102, 103, 104, 105, 106, 107, 108, 109, 110, 111, 112, 113, 114, 115, 116, 117, 118, 119, 120, 121, 6] u).eval = ev at *
          refine k_new (.slice (some ⟨W.heap.size, 0, none⟩) 2 2) (.cells #[.bool a1, .string s1, .bool (neg (-x)), .string (mag (-x))] 26) ⟨_, fg, rfl⟩ ?_ (nxtA hG _) ⟨_, rfl, below_le hG, Bx.new _ _ _⟩ rfl
          simp [go_sem, e91, e93]
        · intro u W hG hf
          obtain ⟨g94, f94, hb94, hx94⟩ : sliK w3.heap.size 26 2 #[.bool a1, .string s1, .bool (neg (-x)), .string (mag (-x))] (u 19) W := hf 19 (by decide)
          have e94 := frm_head (ds := [75, 76, 77, 78, 79, 80, 81, 82, 83, 84, 85, 86, 87, 88, 89, 90, 91, 92, 93, 94, 95, 96, 97, 98, 99, 100, 101, 102, 103, 104, 105, 106, 107, 108, 109, 110, 111, 112, 113, 114, 115, 116, 117, 118, 119, 120, 121, 6]) (u := u) (k := 94) (i := 19) (by rw [hN]; decide) rfl f94
          have fg : u 15 = .bool true := hf 15 (by decide)
          have ef : ∀ f, (frm A [75, 76, 77, 78, 79, 80, 81, 82, 83, 84, 85, 86, 87, 88, 89, 90, 91, 92, 93, 94, 95, 96, 97, 98, 99, 100, 101, 102, 103, 104, 105, 106, 107, 108, 109, 110, 111, 112, 113, 114, 115, 116, 117, 118, 119, 120, 121, 6] u).eval (.func f) = .func (.func f) #[] #[] := fun _ => rfl
          generalize (frm A [75, 76, 77, 78, 79, 80, 81, 82, 83, 84, 85, 86, 87, 88, 89, 90, 91, 92, 93, 94, 95, 96, 97, 98, 99, 100, 101, 102, 103, 104, 105, 106, 107, 108, 109, 110, 111, 112, 113, 114, 115, 116, 117, 118, 119, 120, 121, 6] u).eval = ev at *
          exact k_call _ _ ⟨_, fg, rfl⟩ rfl (by simp [go_sem, ef, e94]) (wAdd2N (r := 0) n1 nX (Int.add_right_neg x) hx94) (fun w' hb => nxt hG hb) (fun _ _ => rfl)
        · intro u W hG hf
          have fg : u 15 = .bool true := hf 15 (by decide)
          generalize (frm A [75, 76, 77, 78, 79, 80, 81, 82, 83, 84, 85, 86, 87, 88, 89, 90, 91, 92, 93, 94, 95, 96, 97, 98, 99, 100, 101, 102, 103, 104, 105, 106, 107, 108, 109, 110, 111, 112, 113, 114, 115, 116, 117, 118, 119, 120, 121, 6] u).eval = ev at *
          refine k_val (.agg #[.bool false, .string ⟨#[]⟩]) ⟨_, fg, rfl⟩ rfl hG ?_ rfl
          simp [go_sem]
        · intro u W hG hf
          have f95 : u 20 = .agg #[.bool false, .string ⟨#[]⟩] := hf 20 (by decide)
          have e95 := frm_head (ds := [75, 76, 77, 78, 79, 80, 81, 82, 83, 84, 85, 86, 87, 88, 89, 90, 91, 92, 93, 94, 95, 96, 97, 98, 99, 100, 101, 102, 103, 104, 105, 106, 107, 108, 109, 110, 111, 112, 113, 114, 115, 116, 117, 118, 119, 120, 121, 6]) (u := u) (k := 95) (i := 20) (by rw [hN]; decide) rfl f95
          have f96 : u 21 = .agg #[.bool false, .string ⟨#[]⟩] := hf 21 (by decide)
          have e96 := frm_head (ds := [75, 76, 77, 78, 79, 80, 81, 82, 83, 84, 85, 86, 87, 88, 89, 90, 91, 92, 93, 94, 95, 96, 97, 98, 99, 100, 101, 102, 103, 104, 105, 106, 107, 108, 109, 110, 111, 112, 113, 114, 115, 116, 117, 118, 119, 120, 121, 6]) (u := u) (k := 96) (i := 21) (by rw [hN]; decide) rfl f96
          have fg : u 15 = .bool true := hf 15 (by decide)
          generalize (frm A [75, 76, 77, 78, 79, 80, 81, 82, 83, 84, 85, 86, 87, 88, 89, 90, 91, 92, 93, 94, 95, 96, 97, 98, 99, 100, 101, 102, 103, 104, 105, 106, 107, 108, 109, 110, 111, 112, 113, 114, 115, 116, 117, 118, 119, 120, 121, 6] u).eval = ev at *
          refine k_val (.bool true) ⟨_, fg, rfl⟩ rfl hG ?_ rfl
          simp [go_sem, e95, e96]
        · intro u W hG hf
          have f90 : u 15 = .bool true := hf 15 (by decide)
          have e90 := frm_head (ds := [75, 76, 77, 78, 79, 80, 81, 82, 83, 84, 85, 86, 87, 88, 89, 90, 91, 92, 93, 94, 95, 96, 97, 98, 99, 100, 101, 102, 103, 104, 105, 106, 107, 108, 109, 110, 111, 112, 113, 114, 115, 116, 117, 118, 119, 120, 121, 6]) (u := u) (k := 90) (i := 15) (by rw [hN]; decide) rfl f90
          have f97 : u 22 = .bool true := hf 22 (by decide)
          have e97 := frm_head (ds := [75, 76, 77, 78, 79, 80, 81, 82, 83, 84, 85, 86, 87, 88, 89, 90, 91, 92, 93, 94, 95, 96, 97, 98, 99, 100, 101, 102, 103, 104, 105, 106, 107, 108, 109, 110, 111, 112, 113, 114, 115, 116, 117, 118, 119, 120, 121, 6]) (u := u) (k := 97) (i := 22) (by rw [hN]; decide) rfl f97
          generalize (frm A [75, 76, 77, 78, 79, 80, 81, 82, 83, 84, 85, 86, 87, 88, 89, 90, 91, 92, 93, 94, 95, 96, 97, 98, 99, 100, 101, 102, 103, 104, 105, 106, 107, 108, 109, 110, 111, 112, 113, 114, 115, 116, 117, 118, 119, 120, 121, 6] u).eval = ev at *
          refine k_val (.bool true) rfl rfl hG ?_ rfl
          simp [go_sem, e90, e97]
        · intro u W hG hf
          have f98 : u 23 = .bool true := hf 23 (by decide)
          have e98 := frm_head (ds := [75, 76, 77, 78, 79, 80, 81, 82, 83, 84, 85, 86, 87, 88, 89, 90, 91, 92, 93, 94, 95, 96, 97, 98, 99, 100, 101, 102, 103, 104, 105, 106, 107, 108, 109, 110, 111, 112, 113, 114, 115, 116, 117, 118, 119, 120, 121, 6]) (u := u) (k := 98) (i := 23) (by rw [hN]; decide) rfl f98
          generalize (frm A [75, 76, 77, 78, 79, 80, 81, 82, 83, 84, 85, 86, 87, 88, 89, 90, 91, 92, 93, 94, 95, 96, 97, 98, 99, 100, 101, 102, 103, 104, 105, 106, 107, 108, 109, 110, 111, 112, 113, 114, 115, 116, 117, 118, 119, 120, 121, 6] u).eval = ev at *
          refine k_val (.bool true) rfl rfl hG ?_ rfl
          simp [go_sem, e98]
        · intro u W hG hf
          have e7 := frm_base (ds := [75, 76, 77, 78, 79, 80, 81, 82, 83, 84, 85, 86, 87, 88, 89, 90, 91, 92, 93, 94, 95, 96, 97, 98, 99, 100, 101, 102, 103, 104, 105, 106, 107, 108, 109, 110, 111, 112, 113, 114, 115, 116, 117, 118, 119, 120, 121, 6]) (u := u) (k := 7) (by rw [hN]; decide) rfl q7
          have fg : u 24 = .bool true := hf 24 (by decide)
          generalize (frm A [75, 76, 77, 78, 79, 80, 81, 82, 83, 84, 85, 86, 87, 88, 89, 90, 91, 92, 93, 94, 95, 96, 97, 98, 99, 100, 101, 102, 103, 104, 105, 106, 107, 108, 109, 110, 111, 112, 113, 114, 115, 116, 117, 118, 119, 120, 121, 6] u).eval = ev at *
          have hx := Z7.later hG
          have y0 := hx.cel 0
          have y1 := hx.cel 1
          simp at y0 y1
          refine k_val (.agg #[.bool (neg (x + y)), .string (mag (x + y))]) ⟨_, fg, rfl⟩ rfl hG ?_ rfl
          simp [go_sem, e7, y0, y1]
        · intro u W hG hf
          have e4 := frm_base (ds := [75, 76, 77, 78, 79, 80, 81, 82, 83, 84, 85, 86, 87, 88, 89, 90, 91, 92, 93, 94, 95, 96, 97, 98, 99, 100, 101, 102, 103, 104, 105, 106, 107, 108, 109, 110, 111, 112, 113, 114, 115, 116, 117, 118, 119, 120, 121, 6]) (u := u) (k := 4) (by rw [hN]; decide) rfl q4
          have fg : u 24 = .bool true := hf 24 (by decide)
          generalize (frm A [75, 76, 77, 78, 79, 80, 81, 82, 83, 84, 85, 86, 87, 88, 89, 90, 91, 92, 93, 94, 95, 96, 97, 98, 99, 100, 101, 102, 103, 104, 105, 106, 107, 108, 109, 110, 111, 112, 113, 114, 115, 116, 117, 118, 119, 120, 121, 6] u).eval = ev at *
          have hx := Z2.later hG
          have y0 := hx.cel 0
          have y1 := hx.cel 1
          simp at y0 y1
          refine k_val (.agg #[.bool a2, .string s2]) ⟨_, fg, rfl⟩ rfl hG ?_ rfl
          simp [go_sem, e4, y0, y1]
        · intro u W hG hf
          have f100 : u 25 = .agg #[.bool (neg (x + y)), .string (mag (x + y))] := hf 25 (by decide)
          have e100 := frm_head (ds := [75, 76, 77, 78, 79, 80, 81, 82, 83, 84, 85, 86, 87, 88, 89, 90, 91, 92, 93, 94, 95, 96, 97, 98, 99, 100, 101, 102, 103, 104, 105, 106, 107, 108, 109, 110, 111, 112, 113, 114, 115, 116, 117, 118, 119, 120, 121, 6]) (u := u) (k := 100) (i := 25) (by rw [hN]; decide) rfl f100
          have f101 : u 26 = .agg #[.bool a2, .string s2] := hf 26 (by decide)
          have e101 := frm_head (ds := [75, 76, 77, 78, 79, 80, 81, 82, 83, 84, 85, 86, 87, 88, 89, 90, 91, 92, 93, 94, 95, 96, 97, 98, 99, 100, 101, 102, 103, 104, 105, 106, 107, 108, 109, 110, 111, 112, 113, 114, 115, 116, 117, 118, 119, 120, 121, 6]) (u := u) (k := 101) (i := 26) (by rw [hN]; decide) rfl f101
          have fg : u 24 = .bool true := hf 24 (by decide)
          have ef : ∀ f, (frm A [75, 76, 77, 78, 79, 80, 81, 82, 83, 84, 85, 86, 87, 88, 89, 90, 91, 92, 93, 94, 95, 96, 97, 98, 99, 100, 101, 102, 103, 104, 105, 106, 107, 108, 109, 110, 111, 112, 113, 114, 115, 116, 117, 118, 119, 120, 121, 6] u).eval (.func f) = .func (.func f) #[] #[] := fun _ => rfl
          generalize (frm A [75, 76, 77, 78, 79, 80, 81, 82, 83, 84, 85, 86, 87, 88, 89, 90, 91, 92, 93, 94, 95, 96, 97, 98, 99, 100, 101, 102, 103, 104, 105, 106, 107, 108, 109, 110, 111, 112, 113, 114, 115, 116, 117, 118, 119, 120, 121, 6] u).eval = ev at *
          exact k_call _ _ ⟨_, fg, rfl⟩ rfl (by simp [go_sem, ef, e100, e101]) (wSubN nS n2 (Int.add_sub_cancel x y)) (fun w' hb => nxt hG hb) (fun _ _ => rfl)
        · intro u W hG hf
          have e3 := frm_base (ds := [75, 76, 77, 78, 79, 80, 81, 82, 83, 84, 85, 86, 87, 88, 89, 90, 91, 92, 93, 94, 95, 96, 97, 98, 99, 100, 101, 102, 103, 104, 105, 106, 107, 108, 109, 110, 111, 112, 113, 114, 115, 116, 117, 118, 119, 120, 121, 6]) (u := u) (k := 3) (by rw [hN]; decide) rfl q3
          have fg : u 24 = .bool true := hf 24 (by decide)
          generalize (frm A [75, 76, 77, 78, 79, 80, 81, 82, 83, 84, 85, 86, 87, 88, 89, 90, 91, 92, 93, 94, 95, 96, 97, 98, 99, 100, 101, 102, 103, 104, 105, 106, 107, 108, 109, 110, 111, 112, 113, 114, 115, 116, 117, 118, 119, 120, 121, 6] u).eval = ev at *
          have hx := Z1.later hG
          have y0 := hx.cel 0
          have y1 := hx.cel 1
          simp at y0 y1
          refine k_val (.agg #[.bool a1, .string s1]) ⟨_, fg, rfl⟩ rfl hG ?_ rfl
          simp [go_sem, e3, y0, y1]
        · intro u W hG hf
          have f103 : u 28 = .agg #[.bool a1, .string s1] := hf 28 (by decide)
          have e103 := frm_head (ds := [75, 76, 77, 78, 79, 80, 81, 82, 83, 84, 85, 86, 87, 88, 89, 90, 91, 92, 93, 94, 95, 96, 97, 98, 99, 100, 101, 102, 103, 104, 105, 106, 107, 108, 109, 110, 111, 112, 113, 114, 115, 116, 117, 118, 119, 120, 121, 6]) (u := u) (k := 103) (i := 28) (by rw [hN]; decide) rfl f103
          have fg : u 24 = .bool true := hf 24 (by decide)
          have ef : ∀ f, (frm A [75, 76, 77, 78, 79, 80, 81, 82, 83, 84, 85, 86, 87, 88, 89, 90, 91, 92, 93, 94, 95, 96, 97, 98, 99, 100, 101, 102, 103, 104, 105, 106, 107, 108, 109, 110, 111, 112, 113, 114, 115, 116, 117, 118, 119, 120, 121, 6] u).eval (.func f) = .func (.func f) #[] #[] := fun _ => rfl
          generalize (frm A [75, 76, 77, 78, 79, 80, 81, 82, 83, 84, 85, 86, 87, 88, 89, 90, 91, 92, 93, 94, 95, 96, 97, 98, 99, 100, 101, 102, 103, 104, 105, 106, 107, 108, 109, 110, 111, 112, 113, 114, 115, 116, 117, 118, 119, 120, 121, 6] u).eval = ev at *
          exact k_call _ _ ⟨_, fg, rfl⟩ rfl (by simp [go_sem, ef, e103]) (wFormN n1) (fun w' hb => nxt hG hb) (fun _ _ => rfl)
        · intro u W hG hf
          have f102 : u 27 = .agg #[.bool (neg (x)), .string (mag (x))] := hf 27 (by decide)
          have e102 := frm_head (ds := [75, 76, 77, 78, 79, 80, 81, 82, 83, 84, 85, 86, 87, 88, 89, 90, 91, 92, 93, 94, 95, 96, 97, 98, 99, 100, 101, 102, 103, 104, 105, 106, 107, 108, 109, 110, 111, 112, 113, 114, 115, 116, 117, 118, 119, 120, 121, 6]) (u := u) (k := 102) (i := 27) (by rw [hN]; decide) rfl f102
          have f104 : u 29 = .agg #[.bool (neg (x)), .string (mag (x))] := hf 29 (by decide)
          have e104 := frm_head (ds := [75, 76, 77, 78, 79, 80, 81, 82, 83, 84, 85, 86, 87, 88, 89, 90, 91, 92, 93, 94, 95, 96, 97, 98, 99, 100, 101, 102, 103, 104, 105, 106, 107, 108, 109, 110, 111, 112, 113, 114, 115, 116, 117, 118, 119, 120, 121, 6]) (u := u) (k := 104) (i := 29) (by rw [hN]; decide) rfl f104
          have fg : u 24 = .bool true := hf 24 (by decide)
          generalize (frm A [75, 76, 77, 78, 79, 80, 81, 82, 83, 84, 85, 86, 87, 88, 89, 90, 91, 92, 93, 94, 95, 96, 97, 98, 99, 100, 101, 102, 103, 104, 105, 106, 107, 108, 109, 110, 111, 112, 113, 114, 115, 116, 117, 118, 119, 120, 121, 6] u).eval = ev at *
          refine k_val (.bool true) ⟨_, fg, rfl⟩ rfl hG ?_ rfl
          simp [go_sem, e102, e104]
        · intro u W hG hf
          have f99 : u 24 = .bool true := hf 24 (by decide)
          have e99 := frm_head (ds := [75, 76, 77, 78, 79, 80, 81, 82, 83, 84, 85, 86, 87, 88, 89, 90, 91, 92, 93, 94, 95, 96, 97, 98, 99, 100, 101, 102, 103, 104, 105, 106, 107, 108, 109, 110, 111, 112, 113, 114, 115, 116, 117, 118, 119, 120, 121, 6]) (u := u) (k := 99) (i := 24) (by rw [hN]; decide) rfl f99
          have f105 : u 30 = .bool true := hf 30 (by decide)
          have e105 := frm_head (ds := [75, 76, 77, 78, 79, 80, 81, 82, 83, 84, 85, 86, 87, 88, 89, 90, 91, 92, 93, 94, 95, 96, 97, 98, 99, 100, 101, 102, 103, 104, 105, 106, 107, 108, 109, 110, 111, 112, 113, 114, 115, 116, 117, 118, 119, 120, 121, 6]) (u := u) (k := 105) (i := 30) (by rw [hN]; decide) rfl f105
          generalize (frm A [75, 76, 77, 78, 79, 80, 81, 82, 83, 84, 85, 86, 87, 88, 89, 90, 91, 92, 93, 94, 95, 96, 97, 98, 99, 100, 101, 102, 103, 104, 105, 106, 107, 108, 109, 110, 111, 112, 113, 114, 115, 116, 117, 118, 119, 120, 121, 6] u).eval = ev at *
          refine k_val (.bool true) rfl rfl hG ?_ rfl
          simp [go_sem, e99, e105]
        · intro u W hG hf
          have f106 : u 31 = .bool true := hf 31 (by decide)
          have e106 := frm_head (ds := [75, 76, 77, 78, 79, 80, 81, 82, 83, 84, 85, 86, 87, 88, 89, 90, 91, 92, 93, 94, 95, 96, 97, 98, 99, 100, 101, 102, 103, 104, 105, 106, 107, 108, 109, 110, 111, 112, 113, 114, 115, 116, 117, 118, 119, 120, 121, 6]) (u := u) (k := 106) (i := 31) (by rw [hN]; decide) rfl f106
          generalize (frm A [75, 76, 77, 78, 79, 80, 81, 82, 83, 84, 85, 86, 87, 88, 89, 90, 91, 92, 93, 94, 95, 96, 97, 98, 99, 100, 101, 102, 103, 104, 105, 106, 107, 108, 109, 110, 111, 112, 113, 114, 115, 116, 117, 118, 119, 120, 121, 6] u).eval = ev at *
          refine k_val (.bool true) rfl rfl hG ?_ rfl
          simp [go_sem, e106]
        · intro u W hG hf
          have e7 := frm_base (ds := [75, 76, 77, 78, 79, 80, 81, 82, 83, 84, 85, 86, 87, 88, 89, 90, 91, 92, 93, 94, 95, 96, 97, 98, 99, 100, 101, 102, 103, 104, 105, 106, 107, 108, 109, 110, 111, 112, 113, 114, 115, 116, 117, 118, 119, 120, 121, 6]) (u := u) (k := 7) (by rw [hN]; decide) rfl q7
          have fg : u 32 = .bool true := hf 32 (by decide)
          generalize (frm A [75, 76, 77, 78, 79, 80, 81, 82, 83, 84, 85, 86, 87, 88, 89, 90, 91, 92, 93, 94, 95, 96, 97, 98, 99, 100, 101, 102, 103, 104, 105, 106, 107, 108, 109, 110, 111, 112, 113, 114, 115, 116, 117, 118, 119, 120, 121, 6] u).eval = ev at *
          have hx := Z7.later hG
          have y0 := hx.cel 0
          have y1 := hx.cel 1
          simp at y0 y1
          refine k_val (.agg #[.bool (neg (x + y)), .string (mag (x + y))]) ⟨_, fg, rfl⟩ rfl hG ?_ rfl
          simp [go_sem, e7, y0, y1]
        · intro u W hG hf
          have f108 : u 33 = .agg #[.bool (neg (x + y)), .string (mag (x + y))] := hf 33 (by decide)
          have e108 := frm_head (ds := [75, 76, 77, 78, 79, 80, 81, 82, 83, 84, 85, 86, 87, 88, 89, 90, 91, 92, 93, 94, 95, 96, 97, 98, 99, 100, 101, 102, 103, 104, 105, 106, 107, 108, 109, 110, 111, 112, 113, 114, 115, 116, 117, 118, 119, 120, 121, 6]) (u := u) (k := 108) (i := 33) (by rw [hN]; decide) rfl f108
          have fg : u 32 = .bool true := hf 32 (by decide)
          have ef : ∀ f, (frm A [75, 76, 77, 78, 79, 80, 81, 82, 83, 84, 85, 86, 87, 88, 89, 90, 91, 92, 93, 94, 95, 96, 97, 98, 99, 100, 101, 102, 103, 104, 105, 106, 107, 108, 109, 110, 111, 112, 113, 114, 115, 116, 117, 118, 119, 120, 121, 6] u).eval (.func f) = .func (.func f) #[] #[] := fun _ => rfl
          generalize (frm A [75, 76, 77, 78, 79, 80, 81, 82, 83, 84, 85, 86, 87, 88, 89, 90, 91, 92, 93, 94, 95, 96, 97, 98, 99, 100, 101, 102, 103, 104, 105, 106, 107, 108, 109, 110, 111, 112, 113, 114, 115, 116, 117, 118, 119, 120, 121, 6] u).eval = ev at *
          exact k_call _ _ ⟨_, fg, rfl⟩ rfl (by simp [go_sem, ef, e108]) (wFormN nS) (fun w' hb => nxt hG hb) (fun _ _ => rfl)
        · intro u W hG hf
          have e7 := frm_base (ds := [75, 76, 77, 78, 79, 80, 81, 82, 83, 84, 85, 86, 87, 88, 89, 90, 91, 92, 93, 94, 95, 96, 97, 98, 99, 100, 101, 102, 103, 104, 105, 106, 107, 108, 109, 110, 111, 112, 113, 114, 115, 116, 117, 118, 119, 120, 121, 6]) (u := u) (k := 7) (by rw [hN]; decide) rfl q7
          have fg : u 32 = .bool true := hf 32 (by decide)
          generalize (frm A [75, 76, 77, 78, 79, 80, 81, 82, 83, 84, 85, 86, 87, 88, 89, 90, 91, 92, 93, 94, 95, 96, 97, 98, 99, 100, 101, 102, 103, 104, 105, 106, 107, 108, 109, 110, 111, 112, 113, 114, 115, 116, 117, 118, 119, 120, 121, 6] u).eval = ev at *
          have hx := Z7.later hG
          have y0 := hx.cel 0
          have y1 := hx.cel 1
          simp at y0 y1
          refine k_val (.agg #[.bool (neg (x + y)), .string (mag (x + y))]) ⟨_, fg, rfl⟩ rfl hG ?_ rfl
          simp [go_sem, e7, y0, y1]
        · intro u W hG hf
          have f109 : u 34 = .agg #[.bool (neg (x + y)), .string (mag (x + y))] := hf 34 (by decide)
          have e109 := frm_head (ds := [75, 76, 77, 78, 79, 80, 81, 82, 83, 84, 85, 86, 87, 88, 89, 90, 91, 92, 93, 94, 95, 96, 97, 98, 99, 100, 101, 102, 103, 104, 105, 106, 107, 108, 109, 110, 111, 112, 113, 114, 115, 116, 117, 118, 119, 120, 121, 6]) (u := u) (k := 109) (i := 34) (by rw [hN]; decide) rfl f109
          have f110 : u 35 = .agg #[.bool (neg (x + y)), .string (mag (x + y))] := hf 35 (by decide)
          have e110 := frm_head (ds := [75, 76, 77, 78, 79, 80, 81, 82, 83, 84, 85, 86, 87, 88, 89, 90, 91, 92, 93, 94, 95, 96, 97, 98, 99, 100, 101, 102, 103, 104, 105, 106, 107, 108, 109, 110, 111, 112, 113, 114, 115, 116, 117, 118, 119, 120, 121, 6]) (u := u) (k := 110) (i := 35) (by rw [hN]; decide) rfl f110
          have fg : u 32 = .bool true := hf 32 (by decide)
          generalize (frm A [75, 76, 77, 78, 79, 80, 81, 82, 83, 84, 85, 86, 87, 88, 89, 90, 91, 92, 93, 94, 95, 96, 97, 98, 99, 100, 101, 102, 103, 104, 105, 106, 107, 108, 109, 110, 111, 112, 113, 114, 115, 116, 117, 118, 119, 120, 121, 6] u).eval = ev at *
          refine k_val (.bool true) ⟨_, fg, rfl⟩ rfl hG ?_ rfl
          simp [go_sem, e109, e110]
        · intro u W hG hf
          have f107 : u 32 = .bool true := hf 32 (by decide)
          have e107 := frm_head (ds := [75, 76, 77, 78, 79, 80, 81, 82, 83, 84, 85, 86, 87, 88, 89, 90, 91, 92, 93, 94, 95, 96, 97, 98, 99, 100, 101, 102, 103, 104, 105, 106, 107, 108, 109, 110, 111, 112, 113, 114, 115, 116, 117, 118, 119, 120, 121, 6]) (u := u) (k := 107) (i := 32) (by rw [hN]; decide) rfl f107
          have f111 : u 36 = .bool true := hf 36 (by decide)
          have e111 := frm_head (ds := [75, 76, 77, 78, 79, 80, 81, 82, 83, 84, 85, 86, 87, 88, 89, 90, 91, 92, 93, 94, 95, 96, 97, 98, 99, 100, 101, 102, 103, 104, 105, 106, 107, 108, 109, 110, 111, 112, 113, 114, 115, 116, 117, 118, 119, 120, 121, 6]) (u := u) (k := 111) (i := 36) (by rw [hN]; decide) rfl f111
          generalize (frm A [75, 76, 77, 78, 79, 80, 81, 82, 83, 84, 85, 86, 87, 88, 89, 90, 91, 92, 93, 94, 95, 96, 97, 98, 99, 100, 101, 102, 103, 104, 105, 106, 107, 108, 109, 110, 111, 112, 113, 114, 115, 116, 117, 118, 119, 120, 121, 6] u).eval = ev at *
          refine k_val (.bool true) rfl rfl hG ?_ rfl
          simp [go_sem, e107, e111]
        · intro u W hG hf
          have f112 : u 37 = .bool true := hf 37 (by decide)
          have e112 := frm_head (ds := [75, 76, 77, 78, 79, 80, 81, 82, 83, 84, 85, 86, 87, 88, 89, 90, 91, 92, 93, 94, 95, 96, 97, 98, 99, 100, 101, 102, 103, 104, 105, 106, 107, 108, 109, 110, 111, 112, 113, 114, 115, 116, 117, 118, 119, 120, 121, 6]) (u := u) (k := 112) (i := 37) (by rw [hN]; decide) rfl f112
          generalize (frm A [75, 76, 77, 78, 79, 80, 81, 82, 83, 84, 85, 86, 87, 88, 89, 90, 91, 92, 93, 94, 95, 96, 97, 98, 99, 100, 101, 102, 103, 104, 105, 106, 107, 108, 109, 110, 111, 112, 113, 114, 115, 116, 117, 118, 119, 120, 121, 6] u).eval = ev at *
          refine k_val (.bool true) rfl rfl hG ?_ rfl
          simp [go_sem, e112]
        · intro u W hG hf
          have e8 := frm_base (ds := [75, 76, 77, 78, 79, 80, 81, 82, 83, 84, 85, 86, 87, 88, 89, 90, 91, 92, 93, 94, 95, 96, 97, 98, 99, 100, 101, 102, 103, 104, 105, 106, 107, 108, 109, 110, 111, 112, 113, 114, 115, 116, 117, 118, 119, 120, 121, 6]) (u := u) (k := 8) (by rw [hN]; decide) rfl q8
          have fg : u 38 = .bool true := hf 38 (by decide)
          generalize (frm A [75, 76, 77, 78, 79, 80, 81, 82, 83, 84, 85, 86, 87, 88, 89, 90, 91, 92, 93, 94, 95, 96, 97, 98, 99, 100, 101, 102, 103, 104, 105, 106, 107, 108, 109, 110, 111, 112, 113, 114, 115, 116, 117, 118, 119, 120, 121, 6] u).eval = ev at *
          have hx := Z8.later hG
          have y0 := hx.cel 0
          have y1 := hx.cel 1
          simp at y0 y1
          refine k_val (.agg #[.bool (neg (x * y)), .string (mag (x * y))]) ⟨_, fg, rfl⟩ rfl hG ?_ rfl
          simp [go_sem, e8, y0, y1]
        · intro u W hG hf
          have f114 : u 39 = .agg #[.bool (neg (x * y)), .string (mag (x * y))] := hf 39 (by decide)
          have e114 := frm_head (ds := [75, 76, 77, 78, 79, 80, 81, 82, 83, 84, 85, 86, 87, 88, 89, 90, 91, 92, 93, 94, 95, 96, 97, 98, 99, 100, 101, 102, 103, 104, 105, 106, 107, 108, 109, 110, 111, 112, 113, 114, 115, 116, 117, 118, 119, 120, 121, 6]) (u := u) (k := 114) (i := 39) (by rw [hN]; decide) rfl f114
          have fg : u 38 = .bool true := hf 38 (by decide)
          have ef : ∀ f, (frm A [75, 76, 77, 78, 79, 80, 81, 82, 83, 84, 85, 86, 87, 88, 89, 90, 91, 92, 93, 94, 95, 96, 97, 98, 99, 100, 101, 102, 103, 104, 105, 106, 107, 108, 109, 110, 111, 112, 113, 114, 115, 116, 117, 118, 119, 120, 121, 6] u).eval (.func f) = .func (.func f) #[] #[] := fun _ => rfl
          generalize (frm A [75, 76, 77, 78, 79, 80, 81, 82, 83, 84, 85, 86, 87, 88, 89, 90, 91, 92, 93, 94, 95, 96, 97, 98, 99, 100, 101, 102, 103, 104, 105, 106, 107, 108, 109, 110, 111, 112, 113, 114, 115, 116, 117, 118, 119, 120, 121, 6] u).eval = ev at *
          exact k_call _ _ ⟨_, fg, rfl⟩ rfl (by simp [go_sem, ef, e114]) (wFormN nP) (fun w' hb => nxt hG hb) (fun _ _ => rfl)
        · intro u W hG hf
          have e8 := frm_base (ds := [75, 76, 77, 78, 79, 80, 81, 82, 83, 84, 85, 86, 87, 88, 89, 90, 91, 92, 93, 94, 95, 96, 97, 98, 99, 100, 101, 102, 103, 104, 105, 106, 107, 108, 109, 110, 111, 112, 113, 114, 115, 116, 117, 118, 119, 120, 121, 6]) (u := u) (k := 8) (by rw [hN]; decide) rfl q8
          have fg : u 38 = .bool true := hf 38 (by decide)
          generalize (frm A [75, 76, 77, 78, 79, 80, 81, 82, 83, 84, 85, 86, 87, 88, 89, 90, 91, 92, 93, 94, 95, 96, 97, 98, 99, 100, 101, 102, 103, 104, 105, 106, 107, 108, 109, 110, 111, 112, 113, 114, 115, 116, 117, 118, 119, 120, 121, 6] u).eval = ev at *
          have hx := Z8.later hG
          have y0 := hx.cel 0
          have y1 := hx.cel 1
          simp at y0 y1
          refine k_val (.agg #[.bool (neg (x * y)), .string (mag (x * y))]) ⟨_, fg, rfl⟩ rfl hG ?_ rfl
          simp [go_sem, e8, y0, y1]
        · intro u W hG hf
          have f115 : u 40 = .agg #[.bool (neg (x * y)), .string (mag (x * y))] := hf 40 (by decide)
          have e115 := frm_head (ds := [75, 76, 77, 78, 79, 80, 81, 82, 83, 84, 85, 86, 87, 88, 89, 90, 91, 92, 93, 94, 95, 96, 97, 98, 99, 100, 101, 102, 103, 104, 105, 106, 107, 108, 109, 110, 111, 112, 113, 114, 115, 116, 117, 118, 119, 120, 121, 6]) (u := u) (k := 115) (i := 40) (by rw [hN]; decide) rfl f115
          have f116 : u 41 = .agg #[.bool (neg (x * y)), .string (mag (x * y))] := hf 41 (by decide)
          have e116 := frm_head (ds := [75, 76, 77, 78, 79, 80, 81, 82, 83, 84, 85, 86, 87, 88, 89, 90, 91, 92, 93, 94, 95, 96, 97, 98, 99, 100, 101, 102, 103, 104, 105, 106, 107, 108, 109, 110, 111, 112, 113, 114, 115, 116, 117, 118, 119, 120, 121, 6]) (u := u) (k := 116) (i := 41) (by rw [hN]; decide) rfl f116
          have fg : u 38 = .bool true := hf 38 (by decide)
          generalize (frm A [75, 76, 77, 78, 79, 80, 81, 82, 83, 84, 85, 86, 87, 88, 89, 90, 91, 92, 93, 94, 95, 96, 97, 98, 99, 100, 101, 102, 103, 104, 105, 106, 107, 108, 109, 110, 111, 112, 113, 114, 115, 116, 117, 118, 119, 120, 121, 6] u).eval = ev at *
          refine k_val (.bool true) ⟨_, fg, rfl⟩ rfl hG ?_ rfl
          simp [go_sem, e115, e116]
        · intro u W hG hf
          have f113 : u 38 = .bool true := hf 38 (by decide)
          have e113 := frm_head (ds := [75, 76, 77, 78, 79, 80, 81, 82, 83, 84, 85, 86, 87, 88, 89, 90, 91, 92, 93, 94, 95, 96, 97, 98, 99, 100, 101, 102, 103, 104, 105, 106, 107, 108, 109, 110, 111, 112, 113, 114, 115, 116, 117, 118, 119, 120, 121, 6]) (u := u) (k := 113) (i := 38) (by rw [hN]; decide) rfl f113
          have f117 : u 42 = .bool true := hf 42 (by decide)
          have e117 := frm_head (ds := [75, 76, 77, 78, 79, 80, 81, 82, 83, 84, 85, 86, 87, 88, 89, 90, 91, 92, 93, 94, 95, 96, 97, 98, 99, 100, 101, 102, 103, 104, 105, 106, 107, 108, 109, 110, 111, 112, 113, 114, 115, 116, 117, 118, 119, 120, 121, 6]) (u := u) (k := 117) (i := 42) (by rw [hN]; decide) rfl f117
          generalize (frm A [75, 76, 77, 78, 79, 80, 81, 82, 83, 84, 85, 86, 87, 88, 89, 90, 91, 92, 93, 94, 95, 96, 97, 98, 99, 100, 101, 102, 103, 104, 105, 106, 107, 108, 109, 110, 111, 112, 113, 114, 115, 116, 117, 118, 119, 120, 121, 6] u).eval = ev at *
          refine k_val (.bool true) rfl rfl hG ?_ rfl
          simp [go_sem, e113, e117]
        · intro u W hG hf
          have f118 : u 43 = .bool true := hf 43 (by decide)
          have e118 := frm_head (ds := [75, 76, 77, 78, 79, 80, 81, 82, 83, 84, 85, 86, 87, 88, 89, 90, 91, 92, 93, 94, 95, 96, 97, 98, 99, 100, 101, 102, 103, 104, 105, 106, 107, 108, 109, 110, 111, 112, 113, 114, 115, 116, 117, 118, 119, 120, 121, 6]) (u := u) (k := 118) (i := 43) (by rw [hN]; decide) rfl f118
          generalize (frm A [75, 76, 77, 78, 79, 80, 81, 82, 83, 84, 85, 86, 87, 88, 89, 90, 91, 92, 93, 94, 95, 96, 97, 98, 99, 100, 101, 102, 103, 104, 105, 106, 107, 108, 109, 110, 111, 112, 113, 114, 115, 116, 117, 118, 119, 120, 121, 6] u).eval = ev at *
          refine k_val (.bool true) rfl rfl hG ?_ rfl
          simp [go_sem, e118]
        · intro u W hG hf
          have fg : u 44 = .bool true := hf 44 (by decide)
          have ef : ∀ f, (frm A [75, 76, 77, 78, 79, 80, 81, 82, 83, 84, 85, 86, 87, 88, 89, 90, 91, 92, 93, 94, 95, 96, 97, 98, 99, 100, 101, 102, 103, 104, 105, 106, 107, 108, 109, 110, 111, 112, 113, 114, 115, 116, 117, 118, 119, 120, 121, 6] u).eval (.func f) = .func (.func f) #[] #[] := fun _ => rfl
          generalize (frm A [75, 76, 77, 78, 79, 80, 81, 82, 83, 84, 85, 86, 87, 88, 89, 90, 91, 92, 93, 94, 95, 96, 97, 98, 99, 100, 101, 102, 103, 104, 105, 106, 107, 108, 109, 110, 111, 112, 113, 114, 115, 116, 117, 118, 119, 120, 121, 6] u).eval = ev at *
          exact k_call _ _ ⟨_, fg, rfl⟩ rfl (by simp [go_sem, ef]) (HA.out W (nxt hB hG)) (fun w' hb => nxt hG hb) (fun _ _ => rfl)
        · intro u W hG hf
          have f119 : u 44 = .bool true := hf 44 (by decide)
          have e119 := frm_head (ds := [75, 76, 77, 78, 79, 80, 81, 82, 83, 84, 85, 86, 87, 88, 89, 90, 91, 92, 93, 94, 95, 96, 97, 98, 99, 100, 101, 102, 103, 104, 105, 106, 107, 108, 109, 110, 111, 112, 113, 114, 115, 116, 117, 118, 119, 120, 121, 6]) (u := u) (k := 119) (i := 44) (by rw [hN]; decide) rfl f119
          have f120 : u 45 = .bool true := hf 45 (by decide)
          have e120 := frm_head (ds := [75, 76, 77, 78, 79, 80, 81, 82, 83, 84, 85, 86, 87, 88, 89, 90, 91, 92, 93, 94, 95, 96, 97, 98, 99, 100, 101, 102, 103, 104, 105, 106, 107, 108, 109, 110, 111, 112, 113, 114, 115, 116, 117, 118, 119, 120, 121, 6]) (u := u) (k := 120) (i := 45) (by rw [hN]; decide) rfl f120
          generalize (frm A [75, 76, 77, 78, 79, 80, 81, 82, 83, 84, 85, 86, 87, 88, 89, 90, 91, 92, 93, 94, 95, 96, 97, 98, 99, 100, 101, 102, 103, 104, 105, 106, 107, 108, 109, 110, 111, 112, 113, 114, 115, 116, 117, 118, 119, 120, 121, 6] u).eval = ev at *
          refine k_val (.bool true) rfl rfl hG ?_ rfl
          simp [go_sem, e119, e120]
        · intro u W hG hf
          have f121 : u 46 = .bool true := hf 46 (by decide)
          have e121 := frm_head (ds := [75, 76, 77, 78, 79, 80, 81, 82, 83, 84, 85, 86, 87, 88, 89, 90, 91, 92, 93, 94, 95, 96, 97, 98, 99, 100, 101, 102, 103, 104, 105, 106, 107, 108, 109, 110, 111, 112, 113, 114, 115, 116, 117, 118, 119, 120, 121, 6]) (u := u) (k := 121) (i := 46) (by rw [hN]; decide) rfl f121
          generalize (frm A [75, 76, 77, 78, 79, 80, 81, 82, 83, 84, 85, 86, 87, 88, 89, 90, 91, 92, 93, 94, 95, 96, 97, 98, 99, 100, 101, 102, 103, 104, 105, 106, 107, 108, 109, 110, 111, 112, 113, 114, 115, 116, 117, 118, 119, 120, 121, 6] u).eval = ev at *
          refine k_val (.bool true) rfl rfl hG ?_ rfl
          simp [go_sem, e121]
      case hlate =>
        intro A _
        exact ⟨trivial, trivial, trivial, trivial, trivial, trivial, trivial, trivial, trivial, trivial, trivial, trivial, trivial, trivial, trivial, trivial, trivial, trivial, trivial, trivial, trivial, trivial, trivial, trivial, trivial, trivial, trivial, trivial, trivial, trivial, trivial, trivial, trivial, trivial, trivial, trivial, trivial, trivial, trivial, trivial, trivial, trivial, trivial, trivial, trivial, trivial, trivial, trivial, trivial⟩
      case htail =>
        intro u w4 hG hP _
        have f6 : u 47 = .bool true := hP 47 (by decide)
        simp only [putAll, Act.put, List.setIfInBounds_toArray, List.set_cons_zero, List.set_cons_succ, List.length_cons, List.length_nil, Nat.reduceAdd, List.drop_succ_cons, List.drop_zero, f6]
        go_wp2
        go_ret
        exact ⟨rfl, nxt hB hG⟩

set_option maxRecDepth 100000 in
set_option maxHeartbeats 2000000 in
theorem wholeRing_any (s1 s2 s3 : ByteArray) (a1 a2 a3 : Bool) (w : World) (hT : TabAt 0 Lib.deBruijn64tab w) :
    Calls Tryd.prog 7 #[.agg #[.bool a1, .string s1], .agg #[.bool a2, .string s2], .agg #[.bool a3, .string s3]] w fun e w' => e = .returned (.bool true) ∧ Below w.heap.size w w' := by
  have HA := Lib.hid (fun W (h : Below w.heap.size w W) => wawake_any W (tab_keep hT h))
  clear hT
  by_cases hbig : (200 : Int) < (s1.size : Int) ∨ (200 : Int) < (s2.size : Int) ∨ (200 : Int) < (s3.size : Int)
  · have cl := Lib.hid (fun W => long3_yes s1 s2 s3 a1 a2 a3 200 W hbig)
    clear hbig
    go_enter Tryd.func7, Tryd.ntmps7
    go_upto_region 1 with (fail)
    have X1 := ((Bx.new w 26 #[.bool a1, .string s1]).alloc (.cells #[.bool a2, .string s2] 26)).alloc (.cells #[.bool a3, .string s3] 26)
    have X2 := (Bx.at1 w (.cells #[.bool a1, .string s1] 26) 26 #[.bool a2, .string s2]).alloc (.cells #[.bool a3, .string s3] 26)
    have X3 := Bx.at2 w (.cells #[.bool a1, .string s1] 26) (.cells #[.bool a2, .string s2] 26) 26 #[.bool a3, .string s3]
    have hB := b3 w (.cells #[.bool a1, .string s1] 26) (.cells #[.bool a2, .string s2] 26) (.cells #[.bool a3, .string s3] 26)
    generalize ((w.alloc (.cells #[.bool a1, .string s1] 26)).alloc (.cells #[.bool a2, .string s2] 26)).alloc (.cells #[.bool a3, .string s3] 26) = w0 at *
    have hl0 := X1.lt
    have hl1 := X2.lt
    have hl2 := X3.lt
    obtain ⟨p1, p2, _, _⟩ := X1.two
    obtain ⟨q1, q2, _, _⟩ := X2.two
    obtain ⟨r1, r2, _, _⟩ := X3.two
    go_wp2_with fail
    refine (cl.out w0).mono ?_
    rintro e w1 ⟨rfl, rfl⟩
    replace hB := nxtA hB (.cells #[.bool a1, .string s1, .bool a2, .string s2, .bool a3, .string s3] 26)
    go_wp2_with fail
    refine (HA.out _ hB).mono ?_
    rintro e wz ⟨rfl, hb⟩
    go_wp2
    go_ret
    exact ⟨rfl, nxt hB hb⟩
  have h1 : s1.size ≤ 200 := by omega
  have h2 : s2.size ≤ 200 := by omega
  have h3 : s3.size ≤ 200 := by omega
  exact wholeRing_main s1 s2 s3 a1 a2 a3 _ _ _ w (num_raw a1 s1 (by omega)) (num_raw a2 s2 (by omega)) (num_raw a3 s3 (by omega)) (bsz_up (bsz_ival a1 s1) h1) (bsz_up (bsz_ival a2 s2) h2) (bsz_up (bsz_ival a3 s3) h3) HA (Lib.hid (fun W => long3_no s1 s2 s3 a1 a2 a3 200 W (by omega) (by omega) (by omega)))

end Go.Proofs.YtmnmfidcldmhdaaDoor
