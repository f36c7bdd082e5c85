/- The walk of ogeelaw02.WholeOrder: it answers true. -/
import Derived.Test.YtmnmfidcldmhdaaDoorNum
namespace Go.Proofs.YtmnmfidcldmhdaaDoor
open Go.RowKit

theorem sgn_le {t : Int} (h : sgn t ≤ 0) : t ≤ 0 := Int.not_lt.1 fun h2 => absurd (sgn_gt.2 h2) (by omega)
theorem mk_ne {x y : Int} (h : x ≠ y) : neg x = neg y → ¬ (mag x).toList = (mag y).toList := fun h1 h2 => h (mk_inj h1 (by rw [ByteArray.toList_eq, ByteArray.toList_eq] at h2; exact congrArg ByteArray.mk (Array.toList_inj.1 h2)))

theorem wFormN2 {b : Bool} {s : ByteArray} {x r : Int} {W : World} (h1 : Num b s x) (e : x = r) :
    Calls Tryd.prog 30 #[.agg #[.bool b, .string s]] W fun e w' => e = .returned (.agg #[.bool (neg r), .string (mag r)]) ∧ Below W.heap.size W w' := by
  subst e; exact wFormN h1

set_option maxRecDepth 100000 in
set_option maxHeartbeats 4000000 in
theorem wholeOrder_main (s1 s2 s3 : ByteArray) (a1 a2 a3 : Bool) (x y z o p q : Int) (w : World) (n1 : Num a1 s1 x) (n2 : Num a2 s2 y) (n3 : Num a3 s3 z) (hx : bsz x ≤ 200) (hy : bsz y ≤ 200) (hz : bsz z ≤ 200)
    (ho : sgn (x - y) = o) (hp : sgn (y - z) = p) (hq : sgn (x - z) = q)
    (HA : Hid (∀ W : World, Below w.heap.size w W → Calls Tryd.prog 14 #[] W fun e w' => e = .returned (.bool true) ∧ Below W.heap.size W w'))
    (cl : Hid (∀ W : World, Calls Tryd.prog 13 #[.int .i64 200, .slice (some ⟨W.heap.size, 0, none⟩) 3 3] (W.alloc (.cells #[.bool a1, .string s1, .bool a2, .string s2, .bool a3, .string s3] 26)) fun e w' => e = .returned (.bool false) ∧ W.alloc (.cells #[.bool a1, .string s1, .bool a2, .string s2, .bool a3, .string s3] 26) = w')) :
    Calls Tryd.prog 8 #[.agg #[.bool a1, .string s1], .agg #[.bool a2, .string s2], .agg #[.bool a3, .string s3]] w fun e w' => e = .returned (.bool true) ∧ Below w.heap.size w w' := by
  have nA : Num (neg (x + z)) (mag (x + z)) (x + z) := num_mk (bsz_add_le hx hz) (by decide)
  have nB : Num (neg (y + z)) (mag (y + z)) (y + z) := num_mk (bsz_add_le hy hz) (by decide)
  have nC : Num (neg (x * z)) (mag (x * z)) (x * z) := num_mk (bsz_mul_le hx hz) (by decide)
  have nD : Num (neg (y * z)) (mag (y * z)) (y * z) := num_mk (bsz_mul_le hy hz) (by decide)
  have ho1 : sgn (y - x) = -o := by rw [← ho, ← sgn_neg, Int.neg_sub]
  have ho2 : sgn (x + z - (y + z)) = o := by rw [← ho]; congr 1; omega
  have ho3 : sgn (x * z - y * z) = o * sgn z := by rw [← Int.sub_mul, sgn_mul, ho]
  have ob := sgn_bd (x - y)
  rw [ho] at ob
  have zb := sgn_bd z
  have hoz : -1 ≤ o * sgn z ∧ o * sgn z ≤ 1 := by rw [← ho, ← sgn_mul]; exact sgn_bd _
  have hw1 : IntKind.i64.wrap (-o) = -o := IntWalk.i64_in _ (by omega)
  have hw2 : IntKind.i64.wrap (o * sgn z) = o * sgn z := IntWalk.i64_in _ (by omega)
  have cO := Lib.hid (fun W => wCmpN (W := W) n1 n2 ho)
  have NS := Lib.hid (And.intro nA (And.intro nB (And.intro nC (And.intro nD (And.intro n1 (And.intro n2 n3))))))
  have KS := Lib.hid (And.intro ho (And.intro hp (And.intro hq (And.intro ho1 (And.intro ho2 (And.intro ho3 (And.intro hw1 hw2)))))))
  clear hx hy hz nA nB nC nD n1 n2 n3 ho hp hq ho1 ho2 ho3 ob zb hoz hw1 hw2
  go_enter Tryd.func8, Tryd.ntmps8
  go_upto_region 1 with (fail)
  have X1 := ((Bx.new w 26 #[.bool a1, .string s1]).alloc (.cells #[.bool a2, .string s2] 26)).alloc (.cells #[.bool a3, .string s3] 26)
  have X2 := (Bx.at1 w (.cells #[.bool a1, .string s1] 26) 26 #[.bool a2, .string s2]).alloc (.cells #[.bool a3, .string s3] 26)
  have X3 := Bx.at2 w (.cells #[.bool a1, .string s1] 26) (.cells #[.bool a2, .string s2] 26) 26 #[.bool a3, .string s3]
  have hB := b3 w (.cells #[.bool a1, .string s1] 26) (.cells #[.bool a2, .string s2] 26) (.cells #[.bool a3, .string s3] 26)
  generalize ((w.alloc (.cells #[.bool a1, .string s1] 26)).alloc (.cells #[.bool a2, .string s2] 26)).alloc (.cells #[.bool a3, .string s3] 26) = w0 at *
  have hl0 := X1.lt
  have hl1 := X2.lt
  have hl2 := X3.lt
  obtain ⟨p1, p2, _, _⟩ := X1.two
  obtain ⟨q1, q2, _, _⟩ := X2.two
  obtain ⟨r1, r2, _, _⟩ := X3.two
  go_wp2_with fail
  refine (cl.out w0).mono ?_
  rintro e w1 ⟨rfl, rfl⟩
  replace hB := nxtA hB (.cells #[.bool a1, .string s1, .bool a2, .string s2, .bool a3, .string s3] 26)
  replace X1 := X1.alloc (.cells #[.bool a1, .string s1, .bool a2, .string s2, .bool a3, .string s3] 26)
  replace X2 := X2.alloc (.cells #[.bool a1, .string s1, .bool a2, .string s2, .bool a3, .string s3] 26)
  replace X3 := X3.alloc (.cells #[.bool a1, .string s1, .bool a2, .string s2, .bool a3, .string s3] 26)
  clear p1 p2 q1 q2 r1 r2
  generalize w0.alloc (.cells #[.bool a1, .string s1, .bool a2, .string s2, .bool a3, .string s3] 26) = w1 at *
  obtain ⟨p1, p2, _, _⟩ := X1.two
  obtain ⟨q1, q2, _, _⟩ := X2.two
  obtain ⟨r1, r2, _, _⟩ := X3.two
  go_wp2_with fail
  refine (cO.out _).mono ?_
  rintro e w2 ⟨rfl, hb⟩
  replace hB := nxt hB hb
  replace X1 := X1.later hb
  replace X2 := X2.later hb
  replace X3 := X3.later hb
  clear hb p1 p2 q1 q2 r1 r2
  have HK := Lib.hid (And.intro X1 (And.intro X2 (And.intro X3 hB)))
  clear X1 X2 X3 hB
  go_upto_region 4 with (fail)
  obtain ⟨X1, X2, X3, hB⟩ := HK.out
  clear HK
  obtain ⟨nA, nB, nC, nD, n1, n2, n3⟩ := NS.out
  obtain ⟨ho, hp, hq, ho1, ho2, ho3, hw1, hw2⟩ := KS.out
  refine wp_region_know [17, 18, 19, 20, 21, 22, 23, 24, 25, 26, 27, 28, 29, 30, 31, 32, 33, 34, 35, 36, 37, 38, 39, 40, 41, 42, 43, 44, 45, 46, 47, 48, 49, 50, 51] (fun W => Below w2.heap.size w2 W) (kAt [eqK (.agg #[.bool a2, .string s2]), eqK (.agg #[.bool a1, .string s1]), eqK (.int .i64 (-o)), eqK (.int .i64 (o)), eqK (.int .i64 (-o)), eqK (.bool false), eqK (.bool false), eqK (.agg #[.bool a1, .string s1]), eqK (.agg #[.bool a3, .string s3]), sliK w2.heap.size 26 2 #[.bool a1, .string s1, .bool a3, .string s3], eqK (.agg #[.bool (neg (x + z)), .string (mag (x + z))]), eqK (.agg #[.bool a2, .string s2]), eqK (.agg #[.bool a3, .string s3]), sliK w2.heap.size 26 2 #[.bool a2, .string s2, .bool a3, .string s3], eqK (.agg #[.bool (neg (y + z)), .string (mag (y + z))]), eqK (.int .i64 (o)), eqK (.int .i64 (o)), eqK (.bool false), eqK (.bool false), eqK (.bool false), eqK (.agg #[.bool a1, .string s1]), eqK (.agg #[.bool a3, .string s3]), sliK w2.heap.size 26 2 #[.bool a1, .string s1, .bool a3, .string s3], eqK (.agg #[.bool (neg (x * z)), .string (mag (x * z))]), eqK (.agg #[.bool a2, .string s2]), eqK (.agg #[.bool a3, .string s3]), sliK w2.heap.size 26 2 #[.bool a2, .string s2, .bool a3, .string s3], eqK (.agg #[.bool (neg (y * z)), .string (mag (y * z))]), eqK (.int .i64 (o * sgn z)), eqK (.int .i64 (o)), eqK (.agg #[.bool a3, .string s3]), eqK (.int .i64 (sgn z)), eqK (.int .i64 (o * sgn z)), eqK (.bool false), eqK (.bool false)])
    (fun _ => true) (fun i => i == 9 || i == 13 || i == 22 || i == 26) (by kernel_rfl) (by kernel_rfl) (fun _ _ _ _ _ h => h) (by kernel_rfl) (by kernel_rfl) 79 rfl (by kernel_rfl) (by kernel_rfl) ?hG (fun i v w w' hi => kAt_stab (by exact ⟨stab_eq _, stab_eq _, stab_eq _, stab_eq _, stab_eq _, stab_eq _, stab_eq _, stab_eq _, stab_eq _, stab_sli _ _ _ _, stab_eq _, stab_eq _, stab_eq _, stab_sli _ _ _ _, stab_eq _, stab_eq _, stab_eq _, stab_eq _, stab_eq _, stab_eq _, stab_eq _, stab_eq _, stab_sli _ _ _ _, stab_eq _, stab_eq _, stab_eq _, stab_sli _ _ _ _, stab_eq _, stab_eq _, stab_eq _, stab_eq _, stab_eq _, stab_eq _, stab_eq _, stab_eq _, trivial⟩) _ i v w w' hi) (fun i v w hi hf h => kAt_fresh (k := 0) (fr := fun i => i == 9 || i == 13 || i == 22 || i == 26) (by exact ⟨fun h => absurd h (by decide), fun h => absurd h (by decide), fun h => absurd h (by decide), fun h => absurd h (by decide), fun h => absurd h (by decide), fun h => absurd h (by decide), fun h => absurd h (by decide), fun h => absurd h (by decide), fun h => absurd h (by decide), fun _ => fresh_sli, fun h => absurd h (by decide), fun h => absurd h (by decide), fun h => absurd h (by decide), fun _ => fresh_sli, fun h => absurd h (by decide), fun h => absurd h (by decide), fun h => absurd h (by decide), fun h => absurd h (by decide), fun h => absurd h (by decide), fun h => absurd h (by decide), fun h => absurd h (by decide), fun h => absurd h (by decide), fun _ => fresh_sli, fun h => absurd h (by decide), fun h => absurd h (by decide), fun h => absurd h (by decide), fun _ => fresh_sli, fun h => absurd h (by decide), fun h => absurd h (by decide), fun h => absurd h (by decide), fun h => absurd h (by decide), fun h => absurd h (by decide), fun h => absurd h (by decide), fun h => absurd h (by decide), fun h => absurd h (by decide), trivial⟩) i v w hi (by rw [Nat.zero_add]; exact hf) h) ?hop ?hlate ?htail
  case hG => exact (Below.refl _ _).drew
  case hop =>
    intro A hA
    have hN : A.tmps.size = 79 := by rw [hA]; rfl
    have q3 : A.tmps.getD 3 undef = .pointer (some ⟨w.heap.size, 0, none⟩) := by rw [hA]; rfl
    have q4 : A.tmps.getD 4 undef = .pointer (some ⟨w.heap.size + 1, 0, none⟩) := by rw [hA]; rfl
    have q5 : A.tmps.getD 5 undef = .pointer (some ⟨w.heap.size + 2, 0, none⟩) := by rw [hA]; rfl
    have q7 : A.tmps.getD 7 undef = .int .i64 (o) := by rw [hA]; rfl
    clear hA
    refine ⟨?_, ?_, ?_, ?_, ?_, ?_, ?_, ?_, ?_, ?_, ?_, ?_, ?_, ?_, ?_, ?_, ?_, ?_, ?_, ?_, ?_, ?_, ?_, ?_, ?_, ?_, ?_, ?_, ?_, ?_, ?_, ?_, ?_, ?_, ?_, trivial⟩
    · intro u W hG hf
      have e4 := frm_base (ds := [17, 18, 19, 20, 21, 22, 23, 24, 25, 26, 27, 28, 29, 30, 31, 32, 33, 34, 35, 36, 37, 38, 39, 40, 41, 42, 43, 44, 45, 46, 47, 48, 49, 50, 51]) (u := u) (k := 4) (by rw [hN]; decide) rfl q4
      generalize (frm A [17, 18, 19, 20, 21, 22, 23, 24, 25, 26, 27, 28, 29, 30, 31, 32, 33, 34, 35, 36, 37, 38, 39, 40, 41, 42, 43, 44, 45, 46, 47, 48, 49, 50, 51] u).eval = ev at *
      have hx := X2.later hG
      have y0 := hx.cel 0
      have y1 := hx.cel 1
      simp at y0 y1
      refine k_val (.agg #[.bool a2, .string s2]) rfl rfl hG ?_ rfl
      simp [go_sem, e4, y0, y1]
    · intro u W hG hf
      have e3 := frm_base (ds := [17, 18, 19, 20, 21, 22, 23, 24, 25, 26, 27, 28, 29, 30, 31, 32, 33, 34, 35, 36, 37, 38, 39, 40, 41, 42, 43, 44, 45, 46, 47, 48, 49, 50, 51]) (u := u) (k := 3) (by rw [hN]; decide) rfl q3
      generalize (frm A [17, 18, 19, 20, 21, 22, 23, 24, 25, 26, 27, 28, 29, 30, 31, 32, 33, 34, 35, 36, 37, 38, 39, 40, 41, 42, 43, 44, 45, 46, 47, 48, 49, 50, 51] u).eval = ev at *
      have hx := X1.later hG
      have y0 := hx.cel 0
      have y1 := hx.cel 1
      simp at y0 y1
      refine k_val (.agg #[.bool a1, .string s1]) rfl rfl hG ?_ rfl
      simp [go_sem, e3, y0, y1]
    · intro u W hG hf
      have f17 : u 0 = .agg #[.bool a2, .string s2] := hf 0 (by decide)
      have e17 := frm_head (ds := [17, 18, 19, 20, 21, 22, 23, 24, 25, 26, 27, 28, 29, 30, 31, 32, 33, 34, 35, 36, 37, 38, 39, 40, 41, 42, 43, 44, 45, 46, 47, 48, 49, 50, 51]) (u := u) (k := 17) (i := 0) (by rw [hN]; decide) rfl f17
      have f18 : u 1 = .agg #[.bool a1, .string s1] := hf 1 (by decide)
      have e18 := frm_head (ds := [17, 18, 19, 20, 21, 22, 23, 24, 25, 26, 27, 28, 29, 30, 31, 32, 33, 34, 35, 36, 37, 38, 39, 40, 41, 42, 43, 44, 45, 46, 47, 48, 49, 50, 51]) (u := u) (k := 18) (i := 1) (by rw [hN]; decide) rfl f18
      have ef : ∀ f, (frm A [17, 18, 19, 20, 21, 22, 23, 24, 25, 26, 27, 28, 29, 30, 31, 32, 33, 34, 35, 36, 37, 38, 39, 40, 41, 42, 43, 44, 45, 46, 47, 48, 49, 50, 51] u).eval (.func f) = .func (.func f) #[] #[] := fun _ => rfl
      generalize (frm A [17, 18, 19, 20, 21, 22, 23, 24, 25, 26, 27, 28, 29, 30, 31, 32, 33, 34, 35, 36, 37, 38, 39, 40, 41, 42, 43, 44, 45, 46, 47, 48, 49, 50, 51] u).eval = ev at *
      exact k_call _ _ rfl rfl (by simp [go_sem, ef, e17, e18]) (wCmpN n2 n1 (ho1)) (fun w' hb => nxt hG hb) (fun _ _ => rfl)
    · intro u W hG hf
      have e7 := frm_base (ds := [17, 18, 19, 20, 21, 22, 23, 24, 25, 26, 27, 28, 29, 30, 31, 32, 33, 34, 35, 36, 37, 38, 39, 40, 41, 42, 43, 44, 45, 46, 47, 48, 49, 50, 51]) (u := u) (k := 7) (by rw [hN]; decide) rfl q7
      generalize (frm A [17, 18, 19, 20, 21, 22, 23, 24, 25, 26, 27, 28, 29, 30, 31, 32, 33, 34, 35, 36, 37, 38, 39, 40, 41, 42, 43, 44, 45, 46, 47, 48, 49, 50, 51] u).eval = ev at *
      refine k_val (.int .i64 (o)) rfl rfl hG ?_ rfl
      simp [go_sem, e7]
    · intro u W hG hf
      have f20 : u 3 = .int .i64 (o) := hf 3 (by decide)
      have e20 := frm_head (ds := [17, 18, 19, 20, 21, 22, 23, 24, 25, 26, 27, 28, 29, 30, 31, 32, 33, 34, 35, 36, 37, 38, 39, 40, 41, 42, 43, 44, 45, 46, 47, 48, 49, 50, 51]) (u := u) (k := 20) (i := 3) (by rw [hN]; decide) rfl f20
      generalize (frm A [17, 18, 19, 20, 21, 22, 23, 24, 25, 26, 27, 28, 29, 30, 31, 32, 33, 34, 35, 36, 37, 38, 39, 40, 41, 42, 43, 44, 45, 46, 47, 48, 49, 50, 51] u).eval = ev at *
      refine k_val (.int .i64 (-o)) rfl rfl hG ?_ rfl
      simp [go_sem, e20, hw1]
    · intro u W hG hf
      have f19 : u 2 = .int .i64 (-o) := hf 2 (by decide)
      have e19 := frm_head (ds := [17, 18, 19, 20, 21, 22, 23, 24, 25, 26, 27, 28, 29, 30, 31, 32, 33, 34, 35, 36, 37, 38, 39, 40, 41, 42, 43, 44, 45, 46, 47, 48, 49, 50, 51]) (u := u) (k := 19) (i := 2) (by rw [hN]; decide) rfl f19
      have f21 : u 4 = .int .i64 (-o) := hf 4 (by decide)
      have e21 := frm_head (ds := [17, 18, 19, 20, 21, 22, 23, 24, 25, 26, 27, 28, 29, 30, 31, 32, 33, 34, 35, 36, 37, 38, 39, 40, 41, 42, 43, 44, 45, 46, 47, 48, 49, 50, 51]) (u := u) (k := 21) (i := 4) (by rw [hN]; decide) rfl f21
      generalize (frm A [17, 18, 19, 20, 21, 22, 23, 24, 25, 26, 27, 28, 29, 30, 31, 32, 33, 34, 35, 36, 37, 38, 39, 40, 41, 42, 43, 44, 45, 46, 47, 48, 49, 50, 51] u).eval = ev at *
      refine k_val (.bool false) rfl rfl hG ?_ rfl
      simp [go_sem, e19, e21]
    · intro u W hG hf
      have f22 : u 5 = .bool false := hf 5 (by decide)
      have e22 := frm_head (ds := [17, 18, 19, 20, 21, 22, 23, 24, 25, 26, 27, 28, 29, 30, 31, 32, 33, 34, 35, 36, 37, 38, 39, 40, 41, 42, 43, 44, 45, 46, 47, 48, 49, 50, 51]) (u := u) (k := 22) (i := 5) (by rw [hN]; decide) rfl f22
      generalize (frm A [17, 18, 19, 20, 21, 22, 23, 24, 25, 26, 27, 28, 29, 30, 31, 32, 33, 34, 35, 36, 37, 38, 39, 40, 41, 42, 43, 44, 45, 46, 47, 48, 49, 50, 51] u).eval = ev at *
      refine k_val (.bool false) rfl rfl hG ?_ rfl
      simp [go_sem, e22]
    · intro u W hG hf
      have e3 := frm_base (ds := [17, 18, 19, 20, 21, 22, 23, 24, 25, 26, 27, 28, 29, 30, 31, 32, 33, 34, 35, 36, 37, 38, 39, 40, 41, 42, 43, 44, 45, 46, 47, 48, 49, 50, 51]) (u := u) (k := 3) (by rw [hN]; decide) rfl q3
      have fg : u 6 = .bool false := hf 6 (by decide)
      generalize (frm A [17, 18, 19, 20, 21, 22, 23, 24, 25, 26, 27, 28, 29, 30, 31, 32, 33, 34, 35, 36, 37, 38, 39, 40, 41, 42, 43, 44, 45, 46, 47, 48, 49, 50, 51] u).eval = ev at *
      have hx := X1.later hG
      have y0 := hx.cel 0
      have y1 := hx.cel 1
      simp at y0 y1
      refine k_val (.agg #[.bool a1, .string s1]) ⟨_, fg, rfl⟩ rfl hG ?_ rfl
      simp [go_sem, e3, y0, y1]
    · intro u W hG hf
      have e5 := frm_base (ds := [17, 18, 19, 20, 21, 22, 23, 24, 25, 26, 27, 28, 29, 30, 31, 32, 33, 34, 35, 36, 37, 38, 39, 40, 41, 42, 43, 44, 45, 46, 47, 48, 49, 50, 51]) (u := u) (k := 5) (by rw [hN]; decide) rfl q5
      have fg : u 6 = .bool false := hf 6 (by decide)
      generalize (frm A [17, 18, 19, 20, 21, 22, 23, 24, 25, 26, 27, 28, 29, 30, 31, 32, 33, 34, 35, 36, 37, 38, 39, 40, 41, 42, 43, 44, 45, 46, 47, 48, 49, 50, 51] u).eval = ev at *
      have hx := X3.later hG
      have y0 := hx.cel 0
      have y1 := hx.cel 1
      simp at y0 y1
      refine k_val (.agg #[.bool a3, .string s3]) ⟨_, fg, rfl⟩ rfl hG ?_ rfl
      simp [go_sem, e5, y0, y1]
    · intro u W hG hf
      have f24 : u 7 = .agg #[.bool a1, .string s1] := hf 7 (by decide)
      have e24 := frm_head (ds := [17, 18, 19, 20, 21, 22, 23, 24, 25, 26, 27, 28, 29, 30, 31, 32, 33, 34, 35, 36, 37, 38, 39, 40, 41, 42, 43, 44, 45, 46, 47, 48, 49, 50, 51]) (u := u) (k := 24) (i := 7) (by rw [hN]; decide) rfl f24
      have f25 : u 8 = .agg #[.bool a3, .string s3] := hf 8 (by decide)
      have e25 := frm_head (ds := [17, 18, 19, 20, 21, 22, 23, 24, 25, 26, 27, 28, 29, 30, 31, 32, 33, 34, 35, 36, 37, 38, 39, 40, 41, 42, 43, 44, 45, 46, 47, 48, 49, 50, 51]) (u := u) (k := 25) (i := 8) (by rw [hN]; decide) rfl f25
      have fg : u 6 = .bool false := hf 6 (by decide)
      generalize (frm A [17, 18, 19, 20, 21, 22, 23, 24, 25, 26, 27, 28, 29, 30, 31, 32, 33, 34, 35, 36, 37, 38, 39, 40, 41, 42, 43, 44, 45, 46, 47, 48, 49, 50, 51] u).eval = ev at *
      refine k_new (.slice (some ⟨W.heap.size, 0, none⟩) 2 2) (.cells #[.bool a1, .string s1, .bool a3, .string s3] 26) ⟨_, fg, rfl⟩ ?_ (nxtA hG _) ⟨_, rfl, below_le hG, Bx.new _ _ _⟩ rfl
      simp [go_sem, e24, e25]
    · intro u W hG hf
      obtain ⟨g26, f26, hb26, hx26⟩ : sliK w2.heap.size 26 2 #[.bool a1, .string s1, .bool a3, .string s3] (u 9) W := hf 9 (by decide)
      have e26 := frm_head (ds := [17, 18, 19, 20, 21, 22, 23, 24, 25, 26, 27, 28, 29, 30, 31, 32, 33, 34, 35, 36, 37, 38, 39, 40, 41, 42, 43, 44, 45, 46, 47, 48, 49, 50, 51]) (u := u) (k := 26) (i := 9) (by rw [hN]; decide) rfl f26
      have fg : u 6 = .bool false := hf 6 (by decide)
      have ef : ∀ f, (frm A [17, 18, 19, 20, 21, 22, 23, 24, 25, 26, 27, 28, 29, 30, 31, 32, 33, 34, 35, 36, 37, 38, 39, 40, 41, 42, 43, 44, 45, 46, 47, 48, 49, 50, 51] u).eval (.func f) = .func (.func f) #[] #[] := fun _ => rfl
      generalize (frm A [17, 18, 19, 20, 21, 22, 23, 24, 25, 26, 27, 28, 29, 30, 31, 32, 33, 34, 35, 36, 37, 38, 39, 40, 41, 42, 43, 44, 45, 46, 47, 48, 49, 50, 51] u).eval = ev at *
      exact k_call _ _ ⟨_, fg, rfl⟩ rfl (by simp [go_sem, ef, e26]) (wAdd2N n1 n3 (rfl) hx26) (fun w' hb => nxt hG hb) (fun _ _ => rfl)
    · intro u W hG hf
      have e4 := frm_base (ds := [17, 18, 19, 20, 21, 22, 23, 24, 25, 26, 27, 28, 29, 30, 31, 32, 33, 34, 35, 36, 37, 38, 39, 40, 41, 42, 43, 44, 45, 46, 47, 48, 49, 50, 51]) (u := u) (k := 4) (by rw [hN]; decide) rfl q4
      have fg : u 6 = .bool false := hf 6 (by decide)
      generalize (frm A [17, 18, 19, 20, 21, 22, 23, 24, 25, 26, 27, 28, 29, 30, 31, 32, 33, 34, 35, 36, 37, 38, 39, 40, 41, 42, 43, 44, 45, 46, 47, 48, 49, 50, 51] u).eval = ev at *
      have hx := X2.later hG
      have y0 := hx.cel 0
      have y1 := hx.cel 1
      simp at y0 y1
      refine k_val (.agg #[.bool a2, .string s2]) ⟨_, fg, rfl⟩ rfl hG ?_ rfl
      simp [go_sem, e4, y0, y1]
    · intro u W hG hf
      have e5 := frm_base (ds := [17, 18, 19, 20, 21, 22, 23, 24, 25, 26, 27, 28, 29, 30, 31, 32, 33, 34, 35, 36, 37, 38, 39, 40, 41, 42, 43, 44, 45, 46, 47, 48, 49, 50, 51]) (u := u) (k := 5) (by rw [hN]; decide) rfl q5
      have fg : u 6 = .bool false := hf 6 (by decide)
      generalize (frm A [17, 18, 19, 20, 21, 22, 23, 24, 25, 26, 27, 28, 29, 30, 31, 32, 33, 34, 35, 36, 37, 38, 39, 40, 41, 42, 43, 44, 45, 46, 47, 48, 49, 50, 51] u).eval = ev at *
      have hx := X3.later hG
      have y0 := hx.cel 0
      have y1 := hx.cel 1
      simp at y0 y1
      refine k_val (.agg #[.bool a3, .string s3]) ⟨_, fg, rfl⟩ rfl hG ?_ rfl
      simp [go_sem, e5, y0, y1]
    · intro u W hG hf
      have f28 : u 11 = .agg #[.bool a2, .string s2] := hf 11 (by decide)
      have e28 := frm_head (ds := [17, 18, 19, 20, 21, 22, 23, 24, 25, 26, 27, 28, 29, 30, 31, 32, 33, 34, 35, 36, 37, 38, 39, 40, 41, 42, 43, 44, 45, 46, 47, 48, 49, 50, 51]) (u := u) (k := 28) (i := 11) (by rw [hN]; decide) rfl f28
      have f29 : u 12 = .agg #[.bool a3, .string s3] := hf 12 (by decide)
      have e29 := frm_head (ds := [17, 18, 19, 20, 21, 22, 23, 24, 25, 26, 27, 28, 29, 30, 31, 32, 33, 34, 35, 36, 37, 38, 39, 40, 41, 42, 43, 44, 45, 46, 47, 48, 49, 50, 51]) (u := u) (k := 29) (i := 12) (by rw [hN]; decide) rfl f29
      have fg : u 6 = .bool false := hf 6 (by decide)
      generalize (frm A [17, 18, 19, 20, 21, 22, 23, 24, 25, 26, 27, 28, 29, 30, 31, 32, 33, 34, 35, 36, 37, 38, 39, 40, 41, 42, 43, 44, 45, 46, 47, 48, 49, 50, 51] u).eval = ev at *
      refine k_new (.slice (some ⟨W.heap.size, 0, none⟩) 2 2) (.cells #[.bool a2, .string s2, .bool a3, .string s3] 26) ⟨_, fg, rfl⟩ ?_ (nxtA hG _) ⟨_, rfl, below_le hG, Bx.new _ _ _⟩ rfl
      simp [go_sem, e28, e29]
    · intro u W hG hf
      obtain ⟨g30, f30, hb30, hx30⟩ : sliK w2.heap.size 26 2 #[.bool a2, .string s2, .bool a3, .string s3] (u 13) W := hf 13 (by decide)
      have e30 := frm_head (ds := [17, 18, 19, 20, 21, 22, 23, 24, 25, 26, 27, 28, 29, 30, 31, 32, 33, 34, 35, 36, 37, 38, 39, 40, 41, 42, 43, 44, 45, 46, 47, 48, 49, 50, 51]) (u := u) (k := 30) (i := 13) (by rw [hN]; decide) rfl f30
      have fg : u 6 = .bool false := hf 6 (by decide)
      have ef : ∀ f, (frm A [17, 18, 19, 20, 21, 22, 23, 24, 25, 26, 27, 28, 29, 30, 31, 32, 33, 34, 35, 36, 37, 38, 39, 40, 41, 42, 43, 44, 45, 46, 47, 48, 49, 50, 51] u).eval (.func f) = .func (.func f) #[] #[] := fun _ => rfl
      generalize (frm A [17, 18, 19, 20, 21, 22, 23, 24, 25, 26, 27, 28, 29, 30, 31, 32, 33, 34, 35, 36, 37, 38, 39, 40, 41, 42, 43, 44, 45, 46, 47, 48, 49, 50, 51] u).eval = ev at *
      exact k_call _ _ ⟨_, fg, rfl⟩ rfl (by simp [go_sem, ef, e30]) (wAdd2N n2 n3 (rfl) hx30) (fun w' hb => nxt hG hb) (fun _ _ => rfl)
    · intro u W hG hf
      have f27 : u 10 = .agg #[.bool (neg (x + z)), .string (mag (x + z))] := hf 10 (by decide)
      have e27 := frm_head (ds := [17, 18, 19, 20, 21, 22, 23, 24, 25, 26, 27, 28, 29, 30, 31, 32, 33, 34, 35, 36, 37, 38, 39, 40, 41, 42, 43, 44, 45, 46, 47, 48, 49, 50, 51]) (u := u) (k := 27) (i := 10) (by rw [hN]; decide) rfl f27
      have f31 : u 14 = .agg #[.bool (neg (y + z)), .string (mag (y + z))] := hf 14 (by decide)
      have e31 := frm_head (ds := [17, 18, 19, 20, 21, 22, 23, 24, 25, 26, 27, 28, 29, 30, 31, 32, 33, 34, 35, 36, 37, 38, 39, 40, 41, 42, 43, 44, 45, 46, 47, 48, 49, 50, 51]) (u := u) (k := 31) (i := 14) (by rw [hN]; decide) rfl f31
      have fg : u 6 = .bool false := hf 6 (by decide)
      have ef : ∀ f, (frm A [17, 18, 19, 20, 21, 22, 23, 24, 25, 26, 27, 28, 29, 30, 31, 32, 33, 34, 35, 36, 37, 38, 39, 40, 41, 42, 43, 44, 45, 46, 47, 48, 49, 50, 51] u).eval (.func f) = .func (.func f) #[] #[] := fun _ => rfl
      generalize (frm A [17, 18, 19, 20, 21, 22, 23, 24, 25, 26, 27, 28, 29, 30, 31, 32, 33, 34, 35, 36, 37, 38, 39, 40, 41, 42, 43, 44, 45, 46, 47, 48, 49, 50, 51] u).eval = ev at *
      exact k_call _ _ ⟨_, fg, rfl⟩ rfl (by simp [go_sem, ef, e27, e31]) (wCmpN nA nB (ho2)) (fun w' hb => nxt hG hb) (fun _ _ => rfl)
    · intro u W hG hf
      have e7 := frm_base (ds := [17, 18, 19, 20, 21, 22, 23, 24, 25, 26, 27, 28, 29, 30, 31, 32, 33, 34, 35, 36, 37, 38, 39, 40, 41, 42, 43, 44, 45, 46, 47, 48, 49, 50, 51]) (u := u) (k := 7) (by rw [hN]; decide) rfl q7
      have fg : u 6 = .bool false := hf 6 (by decide)
      generalize (frm A [17, 18, 19, 20, 21, 22, 23, 24, 25, 26, 27, 28, 29, 30, 31, 32, 33, 34, 35, 36, 37, 38, 39, 40, 41, 42, 43, 44, 45, 46, 47, 48, 49, 50, 51] u).eval = ev at *
      refine k_val (.int .i64 (o)) ⟨_, fg, rfl⟩ rfl hG ?_ rfl
      simp [go_sem, e7]
    · intro u W hG hf
      have f32 : u 15 = .int .i64 (o) := hf 15 (by decide)
      have e32 := frm_head (ds := [17, 18, 19, 20, 21, 22, 23, 24, 25, 26, 27, 28, 29, 30, 31, 32, 33, 34, 35, 36, 37, 38, 39, 40, 41, 42, 43, 44, 45, 46, 47, 48, 49, 50, 51]) (u := u) (k := 32) (i := 15) (by rw [hN]; decide) rfl f32
      have f33 : u 16 = .int .i64 (o) := hf 16 (by decide)
      have e33 := frm_head (ds := [17, 18, 19, 20, 21, 22, 23, 24, 25, 26, 27, 28, 29, 30, 31, 32, 33, 34, 35, 36, 37, 38, 39, 40, 41, 42, 43, 44, 45, 46, 47, 48, 49, 50, 51]) (u := u) (k := 33) (i := 16) (by rw [hN]; decide) rfl f33
      have fg : u 6 = .bool false := hf 6 (by decide)
      generalize (frm A [17, 18, 19, 20, 21, 22, 23, 24, 25, 26, 27, 28, 29, 30, 31, 32, 33, 34, 35, 36, 37, 38, 39, 40, 41, 42, 43, 44, 45, 46, 47, 48, 49, 50, 51] u).eval = ev at *
      refine k_val (.bool false) ⟨_, fg, rfl⟩ rfl hG ?_ rfl
      simp [go_sem, e32, e33]
    · intro u W hG hf
      have f23 : u 6 = .bool false := hf 6 (by decide)
      have e23 := frm_head (ds := [17, 18, 19, 20, 21, 22, 23, 24, 25, 26, 27, 28, 29, 30, 31, 32, 33, 34, 35, 36, 37, 38, 39, 40, 41, 42, 43, 44, 45, 46, 47, 48, 49, 50, 51]) (u := u) (k := 23) (i := 6) (by rw [hN]; decide) rfl f23
      have f34 : u 17 = .bool false := hf 17 (by decide)
      have e34 := frm_head (ds := [17, 18, 19, 20, 21, 22, 23, 24, 25, 26, 27, 28, 29, 30, 31, 32, 33, 34, 35, 36, 37, 38, 39, 40, 41, 42, 43, 44, 45, 46, 47, 48, 49, 50, 51]) (u := u) (k := 34) (i := 17) (by rw [hN]; decide) rfl f34
      generalize (frm A [17, 18, 19, 20, 21, 22, 23, 24, 25, 26, 27, 28, 29, 30, 31, 32, 33, 34, 35, 36, 37, 38, 39, 40, 41, 42, 43, 44, 45, 46, 47, 48, 49, 50, 51] u).eval = ev at *
      refine k_val (.bool false) rfl rfl hG ?_ rfl
      simp [go_sem, e23, e34]
    · intro u W hG hf
      have f35 : u 18 = .bool false := hf 18 (by decide)
      have e35 := frm_head (ds := [17, 18, 19, 20, 21, 22, 23, 24, 25, 26, 27, 28, 29, 30, 31, 32, 33, 34, 35, 36, 37, 38, 39, 40, 41, 42, 43, 44, 45, 46, 47, 48, 49, 50, 51]) (u := u) (k := 35) (i := 18) (by rw [hN]; decide) rfl f35
      generalize (frm A [17, 18, 19, 20, 21, 22, 23, 24, 25, 26, 27, 28, 29, 30, 31, 32, 33, 34, 35, 36, 37, 38, 39, 40, 41, 42, 43, 44, 45, 46, 47, 48, 49, 50, 51] u).eval = ev at *
      refine k_val (.bool false) rfl rfl hG ?_ rfl
      simp [go_sem, e35]
    · intro u W hG hf
      have e3 := frm_base (ds := [17, 18, 19, 20, 21, 22, 23, 24, 25, 26, 27, 28, 29, 30, 31, 32, 33, 34, 35, 36, 37, 38, 39, 40, 41, 42, 43, 44, 45, 46, 47, 48, 49, 50, 51]) (u := u) (k := 3) (by rw [hN]; decide) rfl q3
      have fg : u 19 = .bool false := hf 19 (by decide)
      generalize (frm A [17, 18, 19, 20, 21, 22, 23, 24, 25, 26, 27, 28, 29, 30, 31, 32, 33, 34, 35, 36, 37, 38, 39, 40, 41, 42, 43, 44, 45, 46, 47, 48, 49, 50, 51] u).eval = ev at *
      have hx := X1.later hG
      have y0 := hx.cel 0
      have y1 := hx.cel 1
      simp at y0 y1
      refine k_val (.agg #[.bool a1, .string s1]) ⟨_, fg, rfl⟩ rfl hG ?_ rfl
      simp [go_sem, e3, y0, y1]
    · intro u W hG hf
      have e5 := frm_base (ds := [17, 18, 19, 20, 21, 22, 23, 24, 25, 26, 27, 28, 29, 30, 31, 32, 33, 34, 35, 36, 37, 38, 39, 40, 41, 42, 43, 44, 45, 46, 47, 48, 49, 50, 51]) (u := u) (k := 5) (by rw [hN]; decide) rfl q5
      have fg : u 19 = .bool false := hf 19 (by decide)
      generalize (frm A [17, 18, 19, 20, 21, 22, 23, 24, 25, 26, 27, 28, 29, 30, 31, 32, 33, 34, 35, 36, 37, 38, 39, 40, 41, 42, 43, 44, 45, 46, 47, 48, 49, 50, 51] u).eval = ev at *
      have hx := X3.later hG
      have y0 := hx.cel 0
      have y1 := hx.cel 1
      simp at y0 y1
      refine k_val (.agg #[.bool a3, .string s3]) ⟨_, fg, rfl⟩ rfl hG ?_ rfl
      simp [go_sem, e5, y0, y1]
    · intro u W hG hf
      have f37 : u 20 = .agg #[.bool a1, .string s1] := hf 20 (by decide)
      have e37 := frm_head (ds := [17, 18, 19, 20, 21, 22, 23, 24, 25, 26, 27, 28, 29, 30, 31, 32, 33, 34, 35, 36, 37, 38, 39, 40, 41, 42, 43, 44, 45, 46, 47, 48, 49, 50, 51]) (u := u) (k := 37) (i := 20) (by rw [hN]; decide) rfl f37
      have f38 : u 21 = .agg #[.bool a3, .string s3] := hf 21 (by decide)
      have e38 := frm_head (ds := [17, 18, 19, 20, 21, 22, 23, 24, 25, 26, 27, 28, 29, 30, 31, 32, 33, 34, 35, 36, 37, 38, 39, 40, 41, 42, 43, 44, 45, 46, 47, 48, 49, 50, 51]) (u := u) (k := 38) (i := 21) (by rw [hN]; decide) rfl f38
      have fg : u 19 = .bool false := hf 19 (by decide)
      generalize (frm A [17, 18, 19, 20, 21, 22, 23, 24, 25, 26, 27, 28, 29, 30, 31, 32, 33, 34, 35, 36, 37, 38, 39, 40, 41, 42, 43, 44, 45, 46, 47, 48, 49, 50, 51] u).eval = ev at *
      refine k_new (.slice (some ⟨W.heap.size, 0, none⟩) 2 2) (.cells #[.bool a1, .string s1, .bool a3, .string s3] 26) ⟨_, fg, rfl⟩ ?_ (nxtA hG _) ⟨_, rfl, below_le hG, Bx.new _ _ _⟩ rfl
      simp [go_sem, e37, e38]
    · intro u W hG hf
      obtain ⟨g39, f39, hb39, hx39⟩ : sliK w2.heap.size 26 2 #[.bool a1, .string s1, .bool a3, .string s3] (u 22) W := hf 22 (by decide)
      have e39 := frm_head (ds := [17, 18, 19, 20, 21, 22, 23, 24, 25, 26, 27, 28, 29, 30, 31, 32, 33, 34, 35, 36, 37, 38, 39, 40, 41, 42, 43, 44, 45, 46, 47, 48, 49, 50, 51]) (u := u) (k := 39) (i := 22) (by rw [hN]; decide) rfl f39
      have fg : u 19 = .bool false := hf 19 (by decide)
      have ef : ∀ f, (frm A [17, 18, 19, 20, 21, 22, 23, 24, 25, 26, 27, 28, 29, 30, 31, 32, 33, 34, 35, 36, 37, 38, 39, 40, 41, 42, 43, 44, 45, 46, 47, 48, 49, 50, 51] u).eval (.func f) = .func (.func f) #[] #[] := fun _ => rfl
      generalize (frm A [17, 18, 19, 20, 21, 22, 23, 24, 25, 26, 27, 28, 29, 30, 31, 32, 33, 34, 35, 36, 37, 38, 39, 40, 41, 42, 43, 44, 45, 46, 47, 48, 49, 50, 51] u).eval = ev at *
      exact k_call _ _ ⟨_, fg, rfl⟩ rfl (by simp [go_sem, ef, e39]) (wMul2N n1 n3 (rfl) hx39) (fun w' hb => nxt hG hb) (fun _ _ => rfl)
    · intro u W hG hf
      have e4 := frm_base (ds := [17, 18, 19, 20, 21, 22, 23, 24, 25, 26, 27, 28, 29, 30, 31, 32, 33, 34, 35, 36, 37, 38, 39, 40, 41, 42, 43, 44, 45, 46, 47, 48, 49, 50, 51]) (u := u) (k := 4) (by rw [hN]; decide) rfl q4
      have fg : u 19 = .bool false := hf 19 (by decide)
      generalize (frm A [17, 18, 19, 20, 21, 22, 23, 24, 25, 26, 27, 28, 29, 30, 31, 32, 33, 34, 35, 36, 37, 38, 39, 40, 41, 42, 43, 44, 45, 46, 47, 48, 49, 50, 51] u).eval = ev at *
      have hx := X2.later hG
      have y0 := hx.cel 0
      have y1 := hx.cel 1
      simp at y0 y1
      refine k_val (.agg #[.bool a2, .string s2]) ⟨_, fg, rfl⟩ rfl hG ?_ rfl
      simp [go_sem, e4, y0, y1]
    · intro u W hG hf
      have e5 := frm_base (ds := [17, 18, 19, 20, 21, 22, 23, 24, 25, 26, 27, 28, 29, 30, 31, 32, 33, 34, 35, 36, 37, 38, 39, 40, 41, 42, 43, 44, 45, 46, 47, 48, 49, 50, 51]) (u := u) (k := 5) (by rw [hN]; decide) rfl q5
      have fg : u 19 = .bool false := hf 19 (by decide)
      generalize (frm A [17, 18, 19, 20, 21, 22, 23, 24, 25, 26, 27, 28, 29, 30, 31, 32, 33, 34, 35, 36, 37, 38, 39, 40, 41, 42, 43, 44, 45, 46, 47, 48, 49, 50, 51] u).eval = ev at *
      have hx := X3.later hG
      have y0 := hx.cel 0
      have y1 := hx.cel 1
      simp at y0 y1
      refine k_val (.agg #[.bool a3, .string s3]) ⟨_, fg, rfl⟩ rfl hG ?_ rfl
      simp [go_sem, e5, y0, y1]
    · intro u W hG hf
      have f41 : u 24 = .agg #[.bool a2, .string s2] := hf 24 (by decide)
      have e41 := frm_head (ds := [17, 18, 19, 20, 21, 22, 23, 24, 25, 26, 27, 28, 29, 30, 31, 32, 33, 34, 35, 36, 37, 38, 39, 40, 41, 42, 43, 44, 45, 46, 47, 48, 49, 50, 51]) (u := u) (k := 41) (i := 24) (by rw [hN]; decide) rfl f41
      have f42 : u 25 = .agg #[.bool a3, .string s3] := hf 25 (by decide)
      have e42 := frm_head (ds := [17, 18, 19, 20, 21, 22, 23, 24, 25, 26, 27, 28, 29, 30, 31, 32, 33, 34, 35, 36, 37, 38, 39, 40, 41, 42, 43, 44, 45, 46, 47, 48, 49, 50, 51]) (u := u) (k := 42) (i := 25) (by rw [hN]; decide) rfl f42
      have fg : u 19 = .bool false := hf 19 (by decide)
      generalize (frm A [17, 18, 19, 20, 21, 22, 23, 24, 25, 26, 27, 28, 29, 30, 31, 32, 33, 34, 35, 36, 37, 38, 39, 40, 41, 42, 43, 44, 45, 46, 47, 48, 49, 50, 51] u).eval = ev at *
      refine k_new (.slice (some ⟨W.heap.size, 0, none⟩) 2 2) (.cells #[.bool a2, .string s2, .bool a3, .string s3] 26) ⟨_, fg, rfl⟩ ?_ (nxtA hG _) ⟨_, rfl, below_le hG, Bx.new _ _ _⟩ rfl
      simp [go_sem, e41, e42]
    · intro u W hG hf
      obtain ⟨g43, f43, hb43, hx43⟩ : sliK w2.heap.size 26 2 #[.bool a2, .string s2, .bool a3, .string s3] (u 26) W := hf 26 (by decide)
      have e43 := frm_head (ds := [17, 18, 19, 20, 21, 22, 23, 24, 25, 26, 27, 28, 29, 30, 31, 32, 33, 34, 35, 36, 37, 38, 39, 40, 41, 42, 43, 44, 45, 46, 47, 48, 49, 50, 51]) (u := u) (k := 43) (i := 26) (by rw [hN]; decide) rfl f43
      have fg : u 19 = .bool false := hf 19 (by decide)
      have ef : ∀ f, (frm A [17, 18, 19, 20, 21, 22, 23, 24, 25, 26, 27, 28, 29, 30, 31, 32, 33, 34, 35, 36, 37, 38, 39, 40, 41, 42, 43, 44, 45, 46, 47, 48, 49, 50, 51] u).eval (.func f) = .func (.func f) #[] #[] := fun _ => rfl
      generalize (frm A [17, 18, 19, 20, 21, 22, 23, 24, 25, 26, 27, 28, 29, 30, 31, 32, 33, 34, 35, 36, 37, 38, 39, 40, 41, 42, 43, 44, 45, 46, 47, 48, 49, 50, 51] u).eval = ev at *
      exact k_call _ _ ⟨_, fg, rfl⟩ rfl (by simp [go_sem, ef, e43]) (wMul2N n2 n3 (rfl) hx43) (fun w' hb => nxt hG hb) (fun _ _ => rfl)
    · intro u W hG hf
      have f40 : u 23 = .agg #[.bool (neg (x * z)), .string (mag (x * z))] := hf 23 (by decide)
      have e40 := frm_head (ds := [17, 18, 19, 20, 21, 22, 23, 24, 25, 26, 27, 28, 29, 30, 31, 32, 33, 34, 35, 36, 37, 38, 39, 40, 41, 42, 43, 44, 45, 46, 47, 48, 49, 50, 51]) (u := u) (k := 40) (i := 23) (by rw [hN]; decide) rfl f40
      have f44 : u 27 = .agg #[.bool (neg (y * z)), .string (mag (y * z))] := hf 27 (by decide)
      have e44 := frm_head (ds := [17, 18, 19, 20, 21, 22, 23, 24, 25, 26, 27, 28, 29, 30, 31, 32, 33, 34, 35, 36, 37, 38, 39, 40, 41, 42, 43, 44, 45, 46, 47, 48, 49, 50, 51]) (u := u) (k := 44) (i := 27) (by rw [hN]; decide) rfl f44
      have fg : u 19 = .bool false := hf 19 (by decide)
      have ef : ∀ f, (frm A [17, 18, 19, 20, 21, 22, 23, 24, 25, 26, 27, 28, 29, 30, 31, 32, 33, 34, 35, 36, 37, 38, 39, 40, 41, 42, 43, 44, 45, 46, 47, 48, 49, 50, 51] u).eval (.func f) = .func (.func f) #[] #[] := fun _ => rfl
      generalize (frm A [17, 18, 19, 20, 21, 22, 23, 24, 25, 26, 27, 28, 29, 30, 31, 32, 33, 34, 35, 36, 37, 38, 39, 40, 41, 42, 43, 44, 45, 46, 47, 48, 49, 50, 51] u).eval = ev at *
      exact k_call _ _ ⟨_, fg, rfl⟩ rfl (by simp [go_sem, ef, e40, e44]) (wCmpN nC nD (ho3)) (fun w' hb => nxt hG hb) (fun _ _ => rfl)
    · intro u W hG hf
      have e7 := frm_base (ds := [17, 18, 19, 20, 21, 22, 23, 24, 25, 26, 27, 28, 29, 30, 31, 32, 33, 34, 35, 36, 37, 38, 39, 40, 41, 42, 43, 44, 45, 46, 47, 48, 49, 50, 51]) (u := u) (k := 7) (by rw [hN]; decide) rfl q7
      have fg : u 19 = .bool false := hf 19 (by decide)
      generalize (frm A [17, 18, 19, 20, 21, 22, 23, 24, 25, 26, 27, 28, 29, 30, 31, 32, 33, 34, 35, 36, 37, 38, 39, 40, 41, 42, 43, 44, 45, 46, 47, 48, 49, 50, 51] u).eval = ev at *
      refine k_val (.int .i64 (o)) ⟨_, fg, rfl⟩ rfl hG ?_ rfl
      simp [go_sem, e7]
    · intro u W hG hf
      have e5 := frm_base (ds := [17, 18, 19, 20, 21, 22, 23, 24, 25, 26, 27, 28, 29, 30, 31, 32, 33, 34, 35, 36, 37, 38, 39, 40, 41, 42, 43, 44, 45, 46, 47, 48, 49, 50, 51]) (u := u) (k := 5) (by rw [hN]; decide) rfl q5
      have fg : u 19 = .bool false := hf 19 (by decide)
      generalize (frm A [17, 18, 19, 20, 21, 22, 23, 24, 25, 26, 27, 28, 29, 30, 31, 32, 33, 34, 35, 36, 37, 38, 39, 40, 41, 42, 43, 44, 45, 46, 47, 48, 49, 50, 51] u).eval = ev at *
      have hx := X3.later hG
      have y0 := hx.cel 0
      have y1 := hx.cel 1
      simp at y0 y1
      refine k_val (.agg #[.bool a3, .string s3]) ⟨_, fg, rfl⟩ rfl hG ?_ rfl
      simp [go_sem, e5, y0, y1]
    · intro u W hG hf
      have f47 : u 30 = .agg #[.bool a3, .string s3] := hf 30 (by decide)
      have e47 := frm_head (ds := [17, 18, 19, 20, 21, 22, 23, 24, 25, 26, 27, 28, 29, 30, 31, 32, 33, 34, 35, 36, 37, 38, 39, 40, 41, 42, 43, 44, 45, 46, 47, 48, 49, 50, 51]) (u := u) (k := 47) (i := 30) (by rw [hN]; decide) rfl f47
      have fg : u 19 = .bool false := hf 19 (by decide)
      have ef : ∀ f, (frm A [17, 18, 19, 20, 21, 22, 23, 24, 25, 26, 27, 28, 29, 30, 31, 32, 33, 34, 35, 36, 37, 38, 39, 40, 41, 42, 43, 44, 45, 46, 47, 48, 49, 50, 51] u).eval (.func f) = .func (.func f) #[] #[] := fun _ => rfl
      generalize (frm A [17, 18, 19, 20, 21, 22, 23, 24, 25, 26, 27, 28, 29, 30, 31, 32, 33, 34, 35, 36, 37, 38, 39, 40, 41, 42, 43, 44, 45, 46, 47, 48, 49, 50, 51] u).eval = ev at *
      exact k_call _ _ ⟨_, fg, rfl⟩ rfl (by simp [go_sem, ef, e47]) (wSignN n3 (rfl)) (fun w' hb => nxt hG hb) (fun _ _ => rfl)
    · intro u W hG hf
      have f46 : u 29 = .int .i64 (o) := hf 29 (by decide)
      have e46 := frm_head (ds := [17, 18, 19, 20, 21, 22, 23, 24, 25, 26, 27, 28, 29, 30, 31, 32, 33, 34, 35, 36, 37, 38, 39, 40, 41, 42, 43, 44, 45, 46, 47, 48, 49, 50, 51]) (u := u) (k := 46) (i := 29) (by rw [hN]; decide) rfl f46
      have f48 : u 31 = .int .i64 (sgn z) := hf 31 (by decide)
      have e48 := frm_head (ds := [17, 18, 19, 20, 21, 22, 23, 24, 25, 26, 27, 28, 29, 30, 31, 32, 33, 34, 35, 36, 37, 38, 39, 40, 41, 42, 43, 44, 45, 46, 47, 48, 49, 50, 51]) (u := u) (k := 48) (i := 31) (by rw [hN]; decide) rfl f48
      have fg : u 19 = .bool false := hf 19 (by decide)
      generalize (frm A [17, 18, 19, 20, 21, 22, 23, 24, 25, 26, 27, 28, 29, 30, 31, 32, 33, 34, 35, 36, 37, 38, 39, 40, 41, 42, 43, 44, 45, 46, 47, 48, 49, 50, 51] u).eval = ev at *
      refine k_val (.int .i64 (o * sgn z)) ⟨_, fg, rfl⟩ rfl hG ?_ rfl
      simp [go_sem, e46, e48, hw2]
    · intro u W hG hf
      have f45 : u 28 = .int .i64 (o * sgn z) := hf 28 (by decide)
      have e45 := frm_head (ds := [17, 18, 19, 20, 21, 22, 23, 24, 25, 26, 27, 28, 29, 30, 31, 32, 33, 34, 35, 36, 37, 38, 39, 40, 41, 42, 43, 44, 45, 46, 47, 48, 49, 50, 51]) (u := u) (k := 45) (i := 28) (by rw [hN]; decide) rfl f45
      have f49 : u 32 = .int .i64 (o * sgn z) := hf 32 (by decide)
      have e49 := frm_head (ds := [17, 18, 19, 20, 21, 22, 23, 24, 25, 26, 27, 28, 29, 30, 31, 32, 33, 34, 35, 36, 37, 38, 39, 40, 41, 42, 43, 44, 45, 46, 47, 48, 49, 50, 51]) (u := u) (k := 49) (i := 32) (by rw [hN]; decide) rfl f49
      have fg : u 19 = .bool false := hf 19 (by decide)
      generalize (frm A [17, 18, 19, 20, 21, 22, 23, 24, 25, 26, 27, 28, 29, 30, 31, 32, 33, 34, 35, 36, 37, 38, 39, 40, 41, 42, 43, 44, 45, 46, 47, 48, 49, 50, 51] u).eval = ev at *
      refine k_val (.bool false) ⟨_, fg, rfl⟩ rfl hG ?_ rfl
      simp [go_sem, e45, e49]
    · intro u W hG hf
      have f36 : u 19 = .bool false := hf 19 (by decide)
      have e36 := frm_head (ds := [17, 18, 19, 20, 21, 22, 23, 24, 25, 26, 27, 28, 29, 30, 31, 32, 33, 34, 35, 36, 37, 38, 39, 40, 41, 42, 43, 44, 45, 46, 47, 48, 49, 50, 51]) (u := u) (k := 36) (i := 19) (by rw [hN]; decide) rfl f36
      have f50 : u 33 = .bool false := hf 33 (by decide)
      have e50 := frm_head (ds := [17, 18, 19, 20, 21, 22, 23, 24, 25, 26, 27, 28, 29, 30, 31, 32, 33, 34, 35, 36, 37, 38, 39, 40, 41, 42, 43, 44, 45, 46, 47, 48, 49, 50, 51]) (u := u) (k := 50) (i := 33) (by rw [hN]; decide) rfl f50
      generalize (frm A [17, 18, 19, 20, 21, 22, 23, 24, 25, 26, 27, 28, 29, 30, 31, 32, 33, 34, 35, 36, 37, 38, 39, 40, 41, 42, 43, 44, 45, 46, 47, 48, 49, 50, 51] u).eval = ev at *
      refine k_val (.bool false) rfl rfl hG ?_ rfl
      simp [go_sem, e36, e50]
  case hlate =>
    intro A _
    exact ⟨trivial, trivial, trivial, trivial, trivial, trivial, trivial, trivial, trivial, trivial, trivial, trivial, trivial, trivial, trivial, trivial, trivial, trivial, trivial, trivial, trivial, trivial, trivial, trivial, trivial, trivial, trivial, trivial, trivial, trivial, trivial, trivial, trivial, trivial, trivial, trivial⟩
  case htail =>
    intro u w3 hG hP _
    have f51 : u 34 = .bool false := hP 34 (by decide)
    simp only [putAll, Act.put, List.setIfInBounds_toArray, List.set_cons_zero, List.set_cons_succ, List.length_cons, List.length_nil, Nat.reduceAdd, List.drop_succ_cons, List.drop_zero, f51]
    replace hB := nxt hB hG
    replace X1 := X1.later hG
    replace X2 := X2.later hG
    replace X3 := X3.later hG
    have HK := Lib.hid (And.intro X1 (And.intro X2 (And.intro X3 hB)))
    clear f51 hP hG hB X1 X2 X3 nA nB nC nD n1 n2 n3 ho hp hq ho1 ho2 ho3 hw1 hw2
    go_upto_region 6 with (fail)
    obtain ⟨X1, X2, X3, hB⟩ := HK.out
    obtain ⟨nA, nB, nC, nD, n1, n2, n3⟩ := NS.out
    obtain ⟨ho, hp, hq, ho1, ho2, ho3, hw1, hw2⟩ := KS.out
    clear nA nB nC nD ho1 ho2 ho3 hw1 hw2
    by_cases hO : 0 < o
    · have hz : ¬ o = 0 := by omega
      have hxy : x ≠ y := fun h => by subst h; rw [Int.sub_self] at ho; exact absurd ho (by rw [show sgn 0 = 0 from rfl]; omega)
      refine wp_region_know [52, 53, 54, 55, 56, 57, 58, 59, 60, 61, 62, 63, 64, 65, 66, 67, 68, 69, 70, 71, 72, 73, 74, 75, 76, 77, 78, 6] (fun W => Below w3.heap.size w3 W) (kAt [eqK (.int .i64 (o)), eqK (.bool true), eqK (.bool true), eqK (undef), eqK (undef), eqK (undef), eqK (undef), eqK (.bool true), eqK (.bool true), eqK (undef), eqK (undef), eqK (undef), eqK (undef), eqK (.bool true), eqK (.bool true), eqK (.int .i64 (o)), eqK (.bool false), eqK (.agg #[.bool a1, .string s1]), eqK (.agg #[.bool (neg (x)), .string (mag (x))]), eqK (.agg #[.bool a2, .string s2]), eqK (.agg #[.bool (neg (y)), .string (mag (y))]), eqK (.bool false), eqK (.bool true), eqK (.bool true), eqK (.bool true), eqK (.bool true), eqK (.bool true), eqK (.bool true)])
        (fun _ => true) (fun _ => false) (by kernel_rfl) (by kernel_rfl) (fun _ _ _ _ _ h => h) (by kernel_rfl) (by kernel_rfl) 79 rfl (by kernel_rfl) (by kernel_rfl) ?hG (fun i v w w' hi => kAt_stab (by exact ⟨stab_eq _, stab_eq _, stab_eq _, stab_eq _, stab_eq _, stab_eq _, stab_eq _, stab_eq _, stab_eq _, stab_eq _, stab_eq _, stab_eq _, stab_eq _, stab_eq _, stab_eq _, stab_eq _, stab_eq _, stab_eq _, stab_eq _, stab_eq _, stab_eq _, stab_eq _, stab_eq _, stab_eq _, stab_eq _, stab_eq _, stab_eq _, stab_eq _, trivial⟩) _ i v w w' hi) (fun _ _ _ _ hf _ => absurd hf Bool.false_ne_true) ?hop ?hlate ?htail
      case hG => exact (Below.refl _ _).drew
      case hop =>
        intro A hA
        have hN : A.tmps.size = 79 := by rw [hA]; rfl
        have q3 : A.tmps.getD 3 undef = .pointer (some ⟨w.heap.size, 0, none⟩) := by rw [hA]; rfl
        have q4 : A.tmps.getD 4 undef = .pointer (some ⟨w.heap.size + 1, 0, none⟩) := by rw [hA]; rfl
        have q5 : A.tmps.getD 5 undef = .pointer (some ⟨w.heap.size + 2, 0, none⟩) := by rw [hA]; rfl
        have q7 : A.tmps.getD 7 undef = .int .i64 (o) := by rw [hA]; rfl
        clear hA
        refine ⟨?_, ?_, ?_, ?_, ?_, ?_, ?_, ?_, ?_, ?_, ?_, ?_, ?_, ?_, ?_, ?_, ?_, ?_, ?_, ?_, ?_, ?_, ?_, ?_, ?_, ?_, ?_, ?_, trivial⟩
        · intro u W hG hf
          have e7 := frm_base (ds := [52, 53, 54, 55, 56, 57, 58, 59, 60, 61, 62, 63, 64, 65, 66, 67, 68, 69, 70, 71, 72, 73, 74, 75, 76, 77, 78, 6]) (u := u) (k := 7) (by rw [hN]; decide) rfl q7
          generalize (frm A [52, 53, 54, 55, 56, 57, 58, 59, 60, 61, 62, 63, 64, 65, 66, 67, 68, 69, 70, 71, 72, 73, 74, 75, 76, 77, 78, 6] u).eval = ev at *
          refine k_val (.int .i64 (o)) rfl rfl hG ?_ rfl
          simp [go_sem, e7]
        · intro u W hG hf
          have f52 : u 0 = .int .i64 (o) := hf 0 (by decide)
          have e52 := frm_head (ds := [52, 53, 54, 55, 56, 57, 58, 59, 60, 61, 62, 63, 64, 65, 66, 67, 68, 69, 70, 71, 72, 73, 74, 75, 76, 77, 78, 6]) (u := u) (k := 52) (i := 0) (by rw [hN]; decide) rfl f52
          have ec : ∀ v, (frm A [52, 53, 54, 55, 56, 57, 58, 59, 60, 61, 62, 63, 64, 65, 66, 67, 68, 69, 70, 71, 72, 73, 74, 75, 76, 77, 78, 6] u).eval (.const v) = v := fun _ => rfl
          generalize (frm A [52, 53, 54, 55, 56, 57, 58, 59, 60, 61, 62, 63, 64, 65, 66, 67, 68, 69, 70, 71, 72, 73, 74, 75, 76, 77, 78, 6] u).eval = ev at *
          refine k_val (.bool true) rfl rfl hG ?_ rfl
          simp [go_sem, ec, e52, hO]
        · intro u W hG hf
          have f53 : u 1 = .bool true := hf 1 (by decide)
          have e53 := frm_head (ds := [52, 53, 54, 55, 56, 57, 58, 59, 60, 61, 62, 63, 64, 65, 66, 67, 68, 69, 70, 71, 72, 73, 74, 75, 76, 77, 78, 6]) (u := u) (k := 53) (i := 1) (by rw [hN]; decide) rfl f53
          generalize (frm A [52, 53, 54, 55, 56, 57, 58, 59, 60, 61, 62, 63, 64, 65, 66, 67, 68, 69, 70, 71, 72, 73, 74, 75, 76, 77, 78, 6] u).eval = ev at *
          refine k_val (.bool true) rfl rfl hG ?_ rfl
          simp [go_sem, e53]
        · intro u W hG hf
          have fg : u 2 = .bool true := hf 2 (by decide)
          exact k_skip ⟨_, fg, rfl⟩ rfl rfl
        · intro u W hG hf
          have fg : u 2 = .bool true := hf 2 (by decide)
          exact k_skip ⟨_, fg, rfl⟩ rfl rfl
        · intro u W hG hf
          have fg : u 2 = .bool true := hf 2 (by decide)
          exact k_skip ⟨_, fg, rfl⟩ rfl rfl
        · intro u W hG hf
          have fg : u 2 = .bool true := hf 2 (by decide)
          exact k_skip ⟨_, fg, rfl⟩ rfl rfl
        · intro u W hG hf
          have f54 : u 2 = .bool true := hf 2 (by decide)
          have e54 := frm_head (ds := [52, 53, 54, 55, 56, 57, 58, 59, 60, 61, 62, 63, 64, 65, 66, 67, 68, 69, 70, 71, 72, 73, 74, 75, 76, 77, 78, 6]) (u := u) (k := 54) (i := 2) (by rw [hN]; decide) rfl f54
          have ec : ∀ v, (frm A [52, 53, 54, 55, 56, 57, 58, 59, 60, 61, 62, 63, 64, 65, 66, 67, 68, 69, 70, 71, 72, 73, 74, 75, 76, 77, 78, 6] u).eval (.const v) = v := fun _ => rfl
          generalize (frm A [52, 53, 54, 55, 56, 57, 58, 59, 60, 61, 62, 63, 64, 65, 66, 67, 68, 69, 70, 71, 72, 73, 74, 75, 76, 77, 78, 6] u).eval = ev at *
          refine k_val (.bool true) rfl rfl hG ?_ rfl
          simp [go_sem, ec, e54]
        · intro u W hG hf
          have f59 : u 7 = .bool true := hf 7 (by decide)
          have e59 := frm_head (ds := [52, 53, 54, 55, 56, 57, 58, 59, 60, 61, 62, 63, 64, 65, 66, 67, 68, 69, 70, 71, 72, 73, 74, 75, 76, 77, 78, 6]) (u := u) (k := 59) (i := 7) (by rw [hN]; decide) rfl f59
          generalize (frm A [52, 53, 54, 55, 56, 57, 58, 59, 60, 61, 62, 63, 64, 65, 66, 67, 68, 69, 70, 71, 72, 73, 74, 75, 76, 77, 78, 6] u).eval = ev at *
          refine k_val (.bool true) rfl rfl hG ?_ rfl
          simp [go_sem, e59]
        · intro u W hG hf
          have fg : u 8 = .bool true := hf 8 (by decide)
          exact k_skip ⟨_, fg, rfl⟩ rfl rfl
        · intro u W hG hf
          have fg : u 8 = .bool true := hf 8 (by decide)
          exact k_skip ⟨_, fg, rfl⟩ rfl rfl
        · intro u W hG hf
          have fg : u 8 = .bool true := hf 8 (by decide)
          exact k_skip ⟨_, fg, rfl⟩ rfl rfl
        · intro u W hG hf
          have fg : u 8 = .bool true := hf 8 (by decide)
          exact k_skip ⟨_, fg, rfl⟩ rfl rfl
        · intro u W hG hf
          have f60 : u 8 = .bool true := hf 8 (by decide)
          have e60 := frm_head (ds := [52, 53, 54, 55, 56, 57, 58, 59, 60, 61, 62, 63, 64, 65, 66, 67, 68, 69, 70, 71, 72, 73, 74, 75, 76, 77, 78, 6]) (u := u) (k := 60) (i := 8) (by rw [hN]; decide) rfl f60
          have ec : ∀ v, (frm A [52, 53, 54, 55, 56, 57, 58, 59, 60, 61, 62, 63, 64, 65, 66, 67, 68, 69, 70, 71, 72, 73, 74, 75, 76, 77, 78, 6] u).eval (.const v) = v := fun _ => rfl
          generalize (frm A [52, 53, 54, 55, 56, 57, 58, 59, 60, 61, 62, 63, 64, 65, 66, 67, 68, 69, 70, 71, 72, 73, 74, 75, 76, 77, 78, 6] u).eval = ev at *
          refine k_val (.bool true) rfl rfl hG ?_ rfl
          simp [go_sem, ec, e60]
        · intro u W hG hf
          have f65 : u 13 = .bool true := hf 13 (by decide)
          have e65 := frm_head (ds := [52, 53, 54, 55, 56, 57, 58, 59, 60, 61, 62, 63, 64, 65, 66, 67, 68, 69, 70, 71, 72, 73, 74, 75, 76, 77, 78, 6]) (u := u) (k := 65) (i := 13) (by rw [hN]; decide) rfl f65
          generalize (frm A [52, 53, 54, 55, 56, 57, 58, 59, 60, 61, 62, 63, 64, 65, 66, 67, 68, 69, 70, 71, 72, 73, 74, 75, 76, 77, 78, 6] u).eval = ev at *
          refine k_val (.bool true) rfl rfl hG ?_ rfl
          simp [go_sem, e65]
        · intro u W hG hf
          have e7 := frm_base (ds := [52, 53, 54, 55, 56, 57, 58, 59, 60, 61, 62, 63, 64, 65, 66, 67, 68, 69, 70, 71, 72, 73, 74, 75, 76, 77, 78, 6]) (u := u) (k := 7) (by rw [hN]; decide) rfl q7
          have fg : u 14 = .bool true := hf 14 (by decide)
          generalize (frm A [52, 53, 54, 55, 56, 57, 58, 59, 60, 61, 62, 63, 64, 65, 66, 67, 68, 69, 70, 71, 72, 73, 74, 75, 76, 77, 78, 6] u).eval = ev at *
          refine k_val (.int .i64 (o)) ⟨_, fg, rfl⟩ rfl hG ?_ rfl
          simp [go_sem, e7]
        · intro u W hG hf
          have f67 : u 15 = .int .i64 (o) := hf 15 (by decide)
          have e67 := frm_head (ds := [52, 53, 54, 55, 56, 57, 58, 59, 60, 61, 62, 63, 64, 65, 66, 67, 68, 69, 70, 71, 72, 73, 74, 75, 76, 77, 78, 6]) (u := u) (k := 67) (i := 15) (by rw [hN]; decide) rfl f67
          have fg : u 14 = .bool true := hf 14 (by decide)
          have ec : ∀ v, (frm A [52, 53, 54, 55, 56, 57, 58, 59, 60, 61, 62, 63, 64, 65, 66, 67, 68, 69, 70, 71, 72, 73, 74, 75, 76, 77, 78, 6] u).eval (.const v) = v := fun _ => rfl
          generalize (frm A [52, 53, 54, 55, 56, 57, 58, 59, 60, 61, 62, 63, 64, 65, 66, 67, 68, 69, 70, 71, 72, 73, 74, 75, 76, 77, 78, 6] u).eval = ev at *
          refine k_val (.bool false) ⟨_, fg, rfl⟩ rfl hG ?_ rfl
          simp [go_sem, ec, e67, hz]
        · intro u W hG hf
          have e3 := frm_base (ds := [52, 53, 54, 55, 56, 57, 58, 59, 60, 61, 62, 63, 64, 65, 66, 67, 68, 69, 70, 71, 72, 73, 74, 75, 76, 77, 78, 6]) (u := u) (k := 3) (by rw [hN]; decide) rfl q3
          have fg : u 14 = .bool true := hf 14 (by decide)
          generalize (frm A [52, 53, 54, 55, 56, 57, 58, 59, 60, 61, 62, 63, 64, 65, 66, 67, 68, 69, 70, 71, 72, 73, 74, 75, 76, 77, 78, 6] u).eval = ev at *
          have hx := X1.later hG
          have y0 := hx.cel 0
          have y1 := hx.cel 1
          simp at y0 y1
          refine k_val (.agg #[.bool a1, .string s1]) ⟨_, fg, rfl⟩ rfl hG ?_ rfl
          simp [go_sem, e3, y0, y1]
        · intro u W hG hf
          have f69 : u 17 = .agg #[.bool a1, .string s1] := hf 17 (by decide)
          have e69 := frm_head (ds := [52, 53, 54, 55, 56, 57, 58, 59, 60, 61, 62, 63, 64, 65, 66, 67, 68, 69, 70, 71, 72, 73, 74, 75, 76, 77, 78, 6]) (u := u) (k := 69) (i := 17) (by rw [hN]; decide) rfl f69
          have fg : u 14 = .bool true := hf 14 (by decide)
          have ef : ∀ f, (frm A [52, 53, 54, 55, 56, 57, 58, 59, 60, 61, 62, 63, 64, 65, 66, 67, 68, 69, 70, 71, 72, 73, 74, 75, 76, 77, 78, 6] u).eval (.func f) = .func (.func f) #[] #[] := fun _ => rfl
          generalize (frm A [52, 53, 54, 55, 56, 57, 58, 59, 60, 61, 62, 63, 64, 65, 66, 67, 68, 69, 70, 71, 72, 73, 74, 75, 76, 77, 78, 6] u).eval = ev at *
          exact k_call _ _ ⟨_, fg, rfl⟩ rfl (by simp [go_sem, ef, e69]) (wFormN2 n1 (rfl)) (fun w' hb => nxt hG hb) (fun _ _ => rfl)
        · intro u W hG hf
          have e4 := frm_base (ds := [52, 53, 54, 55, 56, 57, 58, 59, 60, 61, 62, 63, 64, 65, 66, 67, 68, 69, 70, 71, 72, 73, 74, 75, 76, 77, 78, 6]) (u := u) (k := 4) (by rw [hN]; decide) rfl q4
          have fg : u 14 = .bool true := hf 14 (by decide)
          generalize (frm A [52, 53, 54, 55, 56, 57, 58, 59, 60, 61, 62, 63, 64, 65, 66, 67, 68, 69, 70, 71, 72, 73, 74, 75, 76, 77, 78, 6] u).eval = ev at *
          have hx := X2.later hG
          have y0 := hx.cel 0
          have y1 := hx.cel 1
          simp at y0 y1
          refine k_val (.agg #[.bool a2, .string s2]) ⟨_, fg, rfl⟩ rfl hG ?_ rfl
          simp [go_sem, e4, y0, y1]
        · intro u W hG hf
          have f71 : u 19 = .agg #[.bool a2, .string s2] := hf 19 (by decide)
          have e71 := frm_head (ds := [52, 53, 54, 55, 56, 57, 58, 59, 60, 61, 62, 63, 64, 65, 66, 67, 68, 69, 70, 71, 72, 73, 74, 75, 76, 77, 78, 6]) (u := u) (k := 71) (i := 19) (by rw [hN]; decide) rfl f71
          have fg : u 14 = .bool true := hf 14 (by decide)
          have ef : ∀ f, (frm A [52, 53, 54, 55, 56, 57, 58, 59, 60, 61, 62, 63, 64, 65, 66, 67, 68, 69, 70, 71, 72, 73, 74, 75, 76, 77, 78, 6] u).eval (.func f) = .func (.func f) #[] #[] := fun _ => rfl
          generalize (frm A [52, 53, 54, 55, 56, 57, 58, 59, 60, 61, 62, 63, 64, 65, 66, 67, 68, 69, 70, 71, 72, 73, 74, 75, 76, 77, 78, 6] u).eval = ev at *
          exact k_call _ _ ⟨_, fg, rfl⟩ rfl (by simp [go_sem, ef, e71]) (wFormN2 n2 (rfl)) (fun w' hb => nxt hG hb) (fun _ _ => rfl)
        · intro u W hG hf
          have f70 : u 18 = .agg #[.bool (neg (x)), .string (mag (x))] := hf 18 (by decide)
          have e70 := frm_head (ds := [52, 53, 54, 55, 56, 57, 58, 59, 60, 61, 62, 63, 64, 65, 66, 67, 68, 69, 70, 71, 72, 73, 74, 75, 76, 77, 78, 6]) (u := u) (k := 70) (i := 18) (by rw [hN]; decide) rfl f70
          have f72 : u 20 = .agg #[.bool (neg (y)), .string (mag (y))] := hf 20 (by decide)
          have e72 := frm_head (ds := [52, 53, 54, 55, 56, 57, 58, 59, 60, 61, 62, 63, 64, 65, 66, 67, 68, 69, 70, 71, 72, 73, 74, 75, 76, 77, 78, 6]) (u := u) (k := 72) (i := 20) (by rw [hN]; decide) rfl f72
          have fg : u 14 = .bool true := hf 14 (by decide)
          generalize (frm A [52, 53, 54, 55, 56, 57, 58, 59, 60, 61, 62, 63, 64, 65, 66, 67, 68, 69, 70, 71, 72, 73, 74, 75, 76, 77, 78, 6] u).eval = ev at *
          refine k_val (.bool false) ⟨_, fg, rfl⟩ rfl hG ?_ rfl
          simp [go_sem, e70, e72]
          exact mk_ne hxy
        · intro u W hG hf
          have f68 : u 16 = .bool false := hf 16 (by decide)
          have e68 := frm_head (ds := [52, 53, 54, 55, 56, 57, 58, 59, 60, 61, 62, 63, 64, 65, 66, 67, 68, 69, 70, 71, 72, 73, 74, 75, 76, 77, 78, 6]) (u := u) (k := 68) (i := 16) (by rw [hN]; decide) rfl f68
          have f73 : u 21 = .bool false := hf 21 (by decide)
          have e73 := frm_head (ds := [52, 53, 54, 55, 56, 57, 58, 59, 60, 61, 62, 63, 64, 65, 66, 67, 68, 69, 70, 71, 72, 73, 74, 75, 76, 77, 78, 6]) (u := u) (k := 73) (i := 21) (by rw [hN]; decide) rfl f73
          have fg : u 14 = .bool true := hf 14 (by decide)
          generalize (frm A [52, 53, 54, 55, 56, 57, 58, 59, 60, 61, 62, 63, 64, 65, 66, 67, 68, 69, 70, 71, 72, 73, 74, 75, 76, 77, 78, 6] u).eval = ev at *
          refine k_val (.bool true) ⟨_, fg, rfl⟩ rfl hG ?_ rfl
          simp [go_sem, e68, e73]
        · intro u W hG hf
          have f66 : u 14 = .bool true := hf 14 (by decide)
          have e66 := frm_head (ds := [52, 53, 54, 55, 56, 57, 58, 59, 60, 61, 62, 63, 64, 65, 66, 67, 68, 69, 70, 71, 72, 73, 74, 75, 76, 77, 78, 6]) (u := u) (k := 66) (i := 14) (by rw [hN]; decide) rfl f66
          have f74 : u 22 = .bool true := hf 22 (by decide)
          have e74 := frm_head (ds := [52, 53, 54, 55, 56, 57, 58, 59, 60, 61, 62, 63, 64, 65, 66, 67, 68, 69, 70, 71, 72, 73, 74, 75, 76, 77, 78, 6]) (u := u) (k := 74) (i := 22) (by rw [hN]; decide) rfl f74
          generalize (frm A [52, 53, 54, 55, 56, 57, 58, 59, 60, 61, 62, 63, 64, 65, 66, 67, 68, 69, 70, 71, 72, 73, 74, 75, 76, 77, 78, 6] u).eval = ev at *
          refine k_val (.bool true) rfl rfl hG ?_ rfl
          simp [go_sem, e66, e74]
        · intro u W hG hf
          have f75 : u 23 = .bool true := hf 23 (by decide)
          have e75 := frm_head (ds := [52, 53, 54, 55, 56, 57, 58, 59, 60, 61, 62, 63, 64, 65, 66, 67, 68, 69, 70, 71, 72, 73, 74, 75, 76, 77, 78, 6]) (u := u) (k := 75) (i := 23) (by rw [hN]; decide) rfl f75
          generalize (frm A [52, 53, 54, 55, 56, 57, 58, 59, 60, 61, 62, 63, 64, 65, 66, 67, 68, 69, 70, 71, 72, 73, 74, 75, 76, 77, 78, 6] u).eval = ev at *
          refine k_val (.bool true) rfl rfl hG ?_ rfl
          simp [go_sem, e75]
        · intro u W hG hf
          have fg : u 24 = .bool true := hf 24 (by decide)
          have ef : ∀ f, (frm A [52, 53, 54, 55, 56, 57, 58, 59, 60, 61, 62, 63, 64, 65, 66, 67, 68, 69, 70, 71, 72, 73, 74, 75, 76, 77, 78, 6] u).eval (.func f) = .func (.func f) #[] #[] := fun _ => rfl
          generalize (frm A [52, 53, 54, 55, 56, 57, 58, 59, 60, 61, 62, 63, 64, 65, 66, 67, 68, 69, 70, 71, 72, 73, 74, 75, 76, 77, 78, 6] u).eval = ev at *
          exact k_call _ _ ⟨_, fg, rfl⟩ rfl (by simp [go_sem, ef]) (HA.out W (nxt hB hG)) (fun w' hb => nxt hG hb) (fun _ _ => rfl)
        · intro u W hG hf
          have f76 : u 24 = .bool true := hf 24 (by decide)
          have e76 := frm_head (ds := [52, 53, 54, 55, 56, 57, 58, 59, 60, 61, 62, 63, 64, 65, 66, 67, 68, 69, 70, 71, 72, 73, 74, 75, 76, 77, 78, 6]) (u := u) (k := 76) (i := 24) (by rw [hN]; decide) rfl f76
          have f77 : u 25 = .bool true := hf 25 (by decide)
          have e77 := frm_head (ds := [52, 53, 54, 55, 56, 57, 58, 59, 60, 61, 62, 63, 64, 65, 66, 67, 68, 69, 70, 71, 72, 73, 74, 75, 76, 77, 78, 6]) (u := u) (k := 77) (i := 25) (by rw [hN]; decide) rfl f77
          generalize (frm A [52, 53, 54, 55, 56, 57, 58, 59, 60, 61, 62, 63, 64, 65, 66, 67, 68, 69, 70, 71, 72, 73, 74, 75, 76, 77, 78, 6] u).eval = ev at *
          refine k_val (.bool true) rfl rfl hG ?_ rfl
          simp [go_sem, e76, e77]
        · intro u W hG hf
          have f78 : u 26 = .bool true := hf 26 (by decide)
          have e78 := frm_head (ds := [52, 53, 54, 55, 56, 57, 58, 59, 60, 61, 62, 63, 64, 65, 66, 67, 68, 69, 70, 71, 72, 73, 74, 75, 76, 77, 78, 6]) (u := u) (k := 78) (i := 26) (by rw [hN]; decide) rfl f78
          generalize (frm A [52, 53, 54, 55, 56, 57, 58, 59, 60, 61, 62, 63, 64, 65, 66, 67, 68, 69, 70, 71, 72, 73, 74, 75, 76, 77, 78, 6] u).eval = ev at *
          refine k_val (.bool true) rfl rfl hG ?_ rfl
          simp [go_sem, e78]
      case hlate =>
        intro A _
        exact ⟨trivial, trivial, trivial, trivial, trivial, trivial, trivial, trivial, trivial, trivial, trivial, trivial, trivial, trivial, trivial, trivial, trivial, trivial, trivial, trivial, trivial, trivial, trivial, trivial, trivial, trivial, trivial, trivial, trivial⟩
      case htail =>
        intro u w4 hG hP' _
        have f6 : u 27 = .bool true := hP' 27 (by decide)
        simp only [putAll, Act.put, List.setIfInBounds_toArray, List.set_cons_zero, List.set_cons_succ, List.length_cons, List.length_nil, Nat.reduceAdd, List.drop_succ_cons, List.drop_zero, f6]
        go_wp2
        go_ret
        exact ⟨rfl, nxt hB hG⟩
    replace hO := Int.not_lt.1 hO
    by_cases hz : o = 0
    · have hyx : y = x := by
        rw [hz] at ho
        have := sgn_eq.1 ho
        omega
      by_cases hP : 0 < p
      ·
        refine wp_region_know [52, 53, 54, 55, 56, 57, 58, 59, 60, 61, 62, 63, 64, 65, 66, 67, 68, 69, 70, 71, 72, 73, 74, 75, 76, 77, 78, 6] (fun W => Below w3.heap.size w3 W) (kAt [eqK (.int .i64 (o)), eqK (.bool false), eqK (.bool false), eqK (.agg #[.bool a2, .string s2]), eqK (.agg #[.bool a3, .string s3]), eqK (.int .i64 (p)), eqK (.bool true), eqK (.bool true), eqK (.bool true), eqK (undef), eqK (undef), eqK (undef), eqK (undef), eqK (.bool true), eqK (.bool true), eqK (.int .i64 (o)), eqK (.bool true), eqK (.agg #[.bool a1, .string s1]), eqK (.agg #[.bool (neg (x)), .string (mag (x))]), eqK (.agg #[.bool a2, .string s2]), eqK (.agg #[.bool (neg (x)), .string (mag (x))]), eqK (.bool true), eqK (.bool true), eqK (.bool true), eqK (.bool true), eqK (.bool true), eqK (.bool true), eqK (.bool true)])
          (fun _ => true) (fun _ => false) (by kernel_rfl) (by kernel_rfl) (fun _ _ _ _ _ h => h) (by kernel_rfl) (by kernel_rfl) 79 rfl (by kernel_rfl) (by kernel_rfl) ?hG (fun i v w w' hi => kAt_stab (by exact ⟨stab_eq _, stab_eq _, stab_eq _, stab_eq _, stab_eq _, stab_eq _, stab_eq _, stab_eq _, stab_eq _, stab_eq _, stab_eq _, stab_eq _, stab_eq _, stab_eq _, stab_eq _, stab_eq _, stab_eq _, stab_eq _, stab_eq _, stab_eq _, stab_eq _, stab_eq _, stab_eq _, stab_eq _, stab_eq _, stab_eq _, stab_eq _, stab_eq _, trivial⟩) _ i v w w' hi) (fun _ _ _ _ hf _ => absurd hf Bool.false_ne_true) ?hop ?hlate ?htail
        case hG => exact (Below.refl _ _).drew
        case hop =>
          intro A hA
          have hN : A.tmps.size = 79 := by rw [hA]; rfl
          have q3 : A.tmps.getD 3 undef = .pointer (some ⟨w.heap.size, 0, none⟩) := by rw [hA]; rfl
          have q4 : A.tmps.getD 4 undef = .pointer (some ⟨w.heap.size + 1, 0, none⟩) := by rw [hA]; rfl
          have q5 : A.tmps.getD 5 undef = .pointer (some ⟨w.heap.size + 2, 0, none⟩) := by rw [hA]; rfl
          have q7 : A.tmps.getD 7 undef = .int .i64 (o) := by rw [hA]; rfl
          clear hA
          refine ⟨?_, ?_, ?_, ?_, ?_, ?_, ?_, ?_, ?_, ?_, ?_, ?_, ?_, ?_, ?_, ?_, ?_, ?_, ?_, ?_, ?_, ?_, ?_, ?_, ?_, ?_, ?_, ?_, trivial⟩
          · intro u W hG hf
            have e7 := frm_base (ds := [52, 53, 54, 55, 56, 57, 58, 59, 60, 61, 62, 63, 64, 65, 66, 67, 68, 69, 70, 71, 72, 73, 74, 75, 76, 77, 78, 6]) (u := u) (k := 7) (by rw [hN]; decide) rfl q7
            generalize (frm A [52, 53, 54, 55, 56, 57, 58, 59, 60, 61, 62, 63, 64, 65, 66, 67, 68, 69, 70, 71, 72, 73, 74, 75, 76, 77, 78, 6] u).eval = ev at *
            refine k_val (.int .i64 (o)) rfl rfl hG ?_ rfl
            simp [go_sem, e7]
          · intro u W hG hf
            have f52 : u 0 = .int .i64 (o) := hf 0 (by decide)
            have e52 := frm_head (ds := [52, 53, 54, 55, 56, 57, 58, 59, 60, 61, 62, 63, 64, 65, 66, 67, 68, 69, 70, 71, 72, 73, 74, 75, 76, 77, 78, 6]) (u := u) (k := 52) (i := 0) (by rw [hN]; decide) rfl f52
            have ec : ∀ v, (frm A [52, 53, 54, 55, 56, 57, 58, 59, 60, 61, 62, 63, 64, 65, 66, 67, 68, 69, 70, 71, 72, 73, 74, 75, 76, 77, 78, 6] u).eval (.const v) = v := fun _ => rfl
            generalize (frm A [52, 53, 54, 55, 56, 57, 58, 59, 60, 61, 62, 63, 64, 65, 66, 67, 68, 69, 70, 71, 72, 73, 74, 75, 76, 77, 78, 6] u).eval = ev at *
            refine k_val (.bool false) rfl rfl hG ?_ rfl
            simp [go_sem, ec, e52, hO]
          · intro u W hG hf
            have f53 : u 1 = .bool false := hf 1 (by decide)
            have e53 := frm_head (ds := [52, 53, 54, 55, 56, 57, 58, 59, 60, 61, 62, 63, 64, 65, 66, 67, 68, 69, 70, 71, 72, 73, 74, 75, 76, 77, 78, 6]) (u := u) (k := 53) (i := 1) (by rw [hN]; decide) rfl f53
            generalize (frm A [52, 53, 54, 55, 56, 57, 58, 59, 60, 61, 62, 63, 64, 65, 66, 67, 68, 69, 70, 71, 72, 73, 74, 75, 76, 77, 78, 6] u).eval = ev at *
            refine k_val (.bool false) rfl rfl hG ?_ rfl
            simp [go_sem, e53]
          · intro u W hG hf
            have e4 := frm_base (ds := [52, 53, 54, 55, 56, 57, 58, 59, 60, 61, 62, 63, 64, 65, 66, 67, 68, 69, 70, 71, 72, 73, 74, 75, 76, 77, 78, 6]) (u := u) (k := 4) (by rw [hN]; decide) rfl q4
            have fg : u 2 = .bool false := hf 2 (by decide)
            generalize (frm A [52, 53, 54, 55, 56, 57, 58, 59, 60, 61, 62, 63, 64, 65, 66, 67, 68, 69, 70, 71, 72, 73, 74, 75, 76, 77, 78, 6] u).eval = ev at *
            have hx := X2.later hG
            have y0 := hx.cel 0
            have y1 := hx.cel 1
            simp at y0 y1
            refine k_val (.agg #[.bool a2, .string s2]) ⟨_, fg, rfl⟩ rfl hG ?_ rfl
            simp [go_sem, e4, y0, y1]
          · intro u W hG hf
            have e5 := frm_base (ds := [52, 53, 54, 55, 56, 57, 58, 59, 60, 61, 62, 63, 64, 65, 66, 67, 68, 69, 70, 71, 72, 73, 74, 75, 76, 77, 78, 6]) (u := u) (k := 5) (by rw [hN]; decide) rfl q5
            have fg : u 2 = .bool false := hf 2 (by decide)
            generalize (frm A [52, 53, 54, 55, 56, 57, 58, 59, 60, 61, 62, 63, 64, 65, 66, 67, 68, 69, 70, 71, 72, 73, 74, 75, 76, 77, 78, 6] u).eval = ev at *
            have hx := X3.later hG
            have y0 := hx.cel 0
            have y1 := hx.cel 1
            simp at y0 y1
            refine k_val (.agg #[.bool a3, .string s3]) ⟨_, fg, rfl⟩ rfl hG ?_ rfl
            simp [go_sem, e5, y0, y1]
          · intro u W hG hf
            have f55 : u 3 = .agg #[.bool a2, .string s2] := hf 3 (by decide)
            have e55 := frm_head (ds := [52, 53, 54, 55, 56, 57, 58, 59, 60, 61, 62, 63, 64, 65, 66, 67, 68, 69, 70, 71, 72, 73, 74, 75, 76, 77, 78, 6]) (u := u) (k := 55) (i := 3) (by rw [hN]; decide) rfl f55
            have f56 : u 4 = .agg #[.bool a3, .string s3] := hf 4 (by decide)
            have e56 := frm_head (ds := [52, 53, 54, 55, 56, 57, 58, 59, 60, 61, 62, 63, 64, 65, 66, 67, 68, 69, 70, 71, 72, 73, 74, 75, 76, 77, 78, 6]) (u := u) (k := 56) (i := 4) (by rw [hN]; decide) rfl f56
            have fg : u 2 = .bool false := hf 2 (by decide)
            have ef : ∀ f, (frm A [52, 53, 54, 55, 56, 57, 58, 59, 60, 61, 62, 63, 64, 65, 66, 67, 68, 69, 70, 71, 72, 73, 74, 75, 76, 77, 78, 6] u).eval (.func f) = .func (.func f) #[] #[] := fun _ => rfl
            generalize (frm A [52, 53, 54, 55, 56, 57, 58, 59, 60, 61, 62, 63, 64, 65, 66, 67, 68, 69, 70, 71, 72, 73, 74, 75, 76, 77, 78, 6] u).eval = ev at *
            exact k_call _ _ ⟨_, fg, rfl⟩ rfl (by simp [go_sem, ef, e55, e56]) (wCmpN n2 n3 (hp)) (fun w' hb => nxt hG hb) (fun _ _ => rfl)
          · intro u W hG hf
            have f57 : u 5 = .int .i64 (p) := hf 5 (by decide)
            have e57 := frm_head (ds := [52, 53, 54, 55, 56, 57, 58, 59, 60, 61, 62, 63, 64, 65, 66, 67, 68, 69, 70, 71, 72, 73, 74, 75, 76, 77, 78, 6]) (u := u) (k := 57) (i := 5) (by rw [hN]; decide) rfl f57
            have fg : u 2 = .bool false := hf 2 (by decide)
            have ec : ∀ v, (frm A [52, 53, 54, 55, 56, 57, 58, 59, 60, 61, 62, 63, 64, 65, 66, 67, 68, 69, 70, 71, 72, 73, 74, 75, 76, 77, 78, 6] u).eval (.const v) = v := fun _ => rfl
            generalize (frm A [52, 53, 54, 55, 56, 57, 58, 59, 60, 61, 62, 63, 64, 65, 66, 67, 68, 69, 70, 71, 72, 73, 74, 75, 76, 77, 78, 6] u).eval = ev at *
            refine k_val (.bool true) ⟨_, fg, rfl⟩ rfl hG ?_ rfl
            simp [go_sem, ec, e57, hP]
          · intro u W hG hf
            have f54 : u 2 = .bool false := hf 2 (by decide)
            have e54 := frm_head (ds := [52, 53, 54, 55, 56, 57, 58, 59, 60, 61, 62, 63, 64, 65, 66, 67, 68, 69, 70, 71, 72, 73, 74, 75, 76, 77, 78, 6]) (u := u) (k := 54) (i := 2) (by rw [hN]; decide) rfl f54
            have f58 : u 6 = .bool true := hf 6 (by decide)
            have e58 := frm_head (ds := [52, 53, 54, 55, 56, 57, 58, 59, 60, 61, 62, 63, 64, 65, 66, 67, 68, 69, 70, 71, 72, 73, 74, 75, 76, 77, 78, 6]) (u := u) (k := 58) (i := 6) (by rw [hN]; decide) rfl f58
            generalize (frm A [52, 53, 54, 55, 56, 57, 58, 59, 60, 61, 62, 63, 64, 65, 66, 67, 68, 69, 70, 71, 72, 73, 74, 75, 76, 77, 78, 6] u).eval = ev at *
            refine k_val (.bool true) rfl rfl hG ?_ rfl
            simp [go_sem, e54, e58]
          · intro u W hG hf
            have f59 : u 7 = .bool true := hf 7 (by decide)
            have e59 := frm_head (ds := [52, 53, 54, 55, 56, 57, 58, 59, 60, 61, 62, 63, 64, 65, 66, 67, 68, 69, 70, 71, 72, 73, 74, 75, 76, 77, 78, 6]) (u := u) (k := 59) (i := 7) (by rw [hN]; decide) rfl f59
            generalize (frm A [52, 53, 54, 55, 56, 57, 58, 59, 60, 61, 62, 63, 64, 65, 66, 67, 68, 69, 70, 71, 72, 73, 74, 75, 76, 77, 78, 6] u).eval = ev at *
            refine k_val (.bool true) rfl rfl hG ?_ rfl
            simp [go_sem, e59]
          · intro u W hG hf
            have fg : u 8 = .bool true := hf 8 (by decide)
            exact k_skip ⟨_, fg, rfl⟩ rfl rfl
          · intro u W hG hf
            have fg : u 8 = .bool true := hf 8 (by decide)
            exact k_skip ⟨_, fg, rfl⟩ rfl rfl
          · intro u W hG hf
            have fg : u 8 = .bool true := hf 8 (by decide)
            exact k_skip ⟨_, fg, rfl⟩ rfl rfl
          · intro u W hG hf
            have fg : u 8 = .bool true := hf 8 (by decide)
            exact k_skip ⟨_, fg, rfl⟩ rfl rfl
          · intro u W hG hf
            have f60 : u 8 = .bool true := hf 8 (by decide)
            have e60 := frm_head (ds := [52, 53, 54, 55, 56, 57, 58, 59, 60, 61, 62, 63, 64, 65, 66, 67, 68, 69, 70, 71, 72, 73, 74, 75, 76, 77, 78, 6]) (u := u) (k := 60) (i := 8) (by rw [hN]; decide) rfl f60
            have ec : ∀ v, (frm A [52, 53, 54, 55, 56, 57, 58, 59, 60, 61, 62, 63, 64, 65, 66, 67, 68, 69, 70, 71, 72, 73, 74, 75, 76, 77, 78, 6] u).eval (.const v) = v := fun _ => rfl
            generalize (frm A [52, 53, 54, 55, 56, 57, 58, 59, 60, 61, 62, 63, 64, 65, 66, 67, 68, 69, 70, 71, 72, 73, 74, 75, 76, 77, 78, 6] u).eval = ev at *
            refine k_val (.bool true) rfl rfl hG ?_ rfl
            simp [go_sem, ec, e60]
          · intro u W hG hf
            have f65 : u 13 = .bool true := hf 13 (by decide)
            have e65 := frm_head (ds := [52, 53, 54, 55, 56, 57, 58, 59, 60, 61, 62, 63, 64, 65, 66, 67, 68, 69, 70, 71, 72, 73, 74, 75, 76, 77, 78, 6]) (u := u) (k := 65) (i := 13) (by rw [hN]; decide) rfl f65
            generalize (frm A [52, 53, 54, 55, 56, 57, 58, 59, 60, 61, 62, 63, 64, 65, 66, 67, 68, 69, 70, 71, 72, 73, 74, 75, 76, 77, 78, 6] u).eval = ev at *
            refine k_val (.bool true) rfl rfl hG ?_ rfl
            simp [go_sem, e65]
          · intro u W hG hf
            have e7 := frm_base (ds := [52, 53, 54, 55, 56, 57, 58, 59, 60, 61, 62, 63, 64, 65, 66, 67, 68, 69, 70, 71, 72, 73, 74, 75, 76, 77, 78, 6]) (u := u) (k := 7) (by rw [hN]; decide) rfl q7
            have fg : u 14 = .bool true := hf 14 (by decide)
            generalize (frm A [52, 53, 54, 55, 56, 57, 58, 59, 60, 61, 62, 63, 64, 65, 66, 67, 68, 69, 70, 71, 72, 73, 74, 75, 76, 77, 78, 6] u).eval = ev at *
            refine k_val (.int .i64 (o)) ⟨_, fg, rfl⟩ rfl hG ?_ rfl
            simp [go_sem, e7]
          · intro u W hG hf
            have f67 : u 15 = .int .i64 (o) := hf 15 (by decide)
            have e67 := frm_head (ds := [52, 53, 54, 55, 56, 57, 58, 59, 60, 61, 62, 63, 64, 65, 66, 67, 68, 69, 70, 71, 72, 73, 74, 75, 76, 77, 78, 6]) (u := u) (k := 67) (i := 15) (by rw [hN]; decide) rfl f67
            have fg : u 14 = .bool true := hf 14 (by decide)
            have ec : ∀ v, (frm A [52, 53, 54, 55, 56, 57, 58, 59, 60, 61, 62, 63, 64, 65, 66, 67, 68, 69, 70, 71, 72, 73, 74, 75, 76, 77, 78, 6] u).eval (.const v) = v := fun _ => rfl
            generalize (frm A [52, 53, 54, 55, 56, 57, 58, 59, 60, 61, 62, 63, 64, 65, 66, 67, 68, 69, 70, 71, 72, 73, 74, 75, 76, 77, 78, 6] u).eval = ev at *
            refine k_val (.bool true) ⟨_, fg, rfl⟩ rfl hG ?_ rfl
            simp [go_sem, ec, e67, hz]
          · intro u W hG hf
            have e3 := frm_base (ds := [52, 53, 54, 55, 56, 57, 58, 59, 60, 61, 62, 63, 64, 65, 66, 67, 68, 69, 70, 71, 72, 73, 74, 75, 76, 77, 78, 6]) (u := u) (k := 3) (by rw [hN]; decide) rfl q3
            have fg : u 14 = .bool true := hf 14 (by decide)
            generalize (frm A [52, 53, 54, 55, 56, 57, 58, 59, 60, 61, 62, 63, 64, 65, 66, 67, 68, 69, 70, 71, 72, 73, 74, 75, 76, 77, 78, 6] u).eval = ev at *
            have hx := X1.later hG
            have y0 := hx.cel 0
            have y1 := hx.cel 1
            simp at y0 y1
            refine k_val (.agg #[.bool a1, .string s1]) ⟨_, fg, rfl⟩ rfl hG ?_ rfl
            simp [go_sem, e3, y0, y1]
          · intro u W hG hf
            have f69 : u 17 = .agg #[.bool a1, .string s1] := hf 17 (by decide)
            have e69 := frm_head (ds := [52, 53, 54, 55, 56, 57, 58, 59, 60, 61, 62, 63, 64, 65, 66, 67, 68, 69, 70, 71, 72, 73, 74, 75, 76, 77, 78, 6]) (u := u) (k := 69) (i := 17) (by rw [hN]; decide) rfl f69
            have fg : u 14 = .bool true := hf 14 (by decide)
            have ef : ∀ f, (frm A [52, 53, 54, 55, 56, 57, 58, 59, 60, 61, 62, 63, 64, 65, 66, 67, 68, 69, 70, 71, 72, 73, 74, 75, 76, 77, 78, 6] u).eval (.func f) = .func (.func f) #[] #[] := fun _ => rfl
            generalize (frm A [52, 53, 54, 55, 56, 57, 58, 59, 60, 61, 62, 63, 64, 65, 66, 67, 68, 69, 70, 71, 72, 73, 74, 75, 76, 77, 78, 6] u).eval = ev at *
            exact k_call _ _ ⟨_, fg, rfl⟩ rfl (by simp [go_sem, ef, e69]) (wFormN2 n1 (rfl)) (fun w' hb => nxt hG hb) (fun _ _ => rfl)
          · intro u W hG hf
            have e4 := frm_base (ds := [52, 53, 54, 55, 56, 57, 58, 59, 60, 61, 62, 63, 64, 65, 66, 67, 68, 69, 70, 71, 72, 73, 74, 75, 76, 77, 78, 6]) (u := u) (k := 4) (by rw [hN]; decide) rfl q4
            have fg : u 14 = .bool true := hf 14 (by decide)
            generalize (frm A [52, 53, 54, 55, 56, 57, 58, 59, 60, 61, 62, 63, 64, 65, 66, 67, 68, 69, 70, 71, 72, 73, 74, 75, 76, 77, 78, 6] u).eval = ev at *
            have hx := X2.later hG
            have y0 := hx.cel 0
            have y1 := hx.cel 1
            simp at y0 y1
            refine k_val (.agg #[.bool a2, .string s2]) ⟨_, fg, rfl⟩ rfl hG ?_ rfl
            simp [go_sem, e4, y0, y1]
          · intro u W hG hf
            have f71 : u 19 = .agg #[.bool a2, .string s2] := hf 19 (by decide)
            have e71 := frm_head (ds := [52, 53, 54, 55, 56, 57, 58, 59, 60, 61, 62, 63, 64, 65, 66, 67, 68, 69, 70, 71, 72, 73, 74, 75, 76, 77, 78, 6]) (u := u) (k := 71) (i := 19) (by rw [hN]; decide) rfl f71
            have fg : u 14 = .bool true := hf 14 (by decide)
            have ef : ∀ f, (frm A [52, 53, 54, 55, 56, 57, 58, 59, 60, 61, 62, 63, 64, 65, 66, 67, 68, 69, 70, 71, 72, 73, 74, 75, 76, 77, 78, 6] u).eval (.func f) = .func (.func f) #[] #[] := fun _ => rfl
            generalize (frm A [52, 53, 54, 55, 56, 57, 58, 59, 60, 61, 62, 63, 64, 65, 66, 67, 68, 69, 70, 71, 72, 73, 74, 75, 76, 77, 78, 6] u).eval = ev at *
            exact k_call _ _ ⟨_, fg, rfl⟩ rfl (by simp [go_sem, ef, e71]) (wFormN2 n2 (hyx)) (fun w' hb => nxt hG hb) (fun _ _ => rfl)
          · intro u W hG hf
            have f70 : u 18 = .agg #[.bool (neg (x)), .string (mag (x))] := hf 18 (by decide)
            have e70 := frm_head (ds := [52, 53, 54, 55, 56, 57, 58, 59, 60, 61, 62, 63, 64, 65, 66, 67, 68, 69, 70, 71, 72, 73, 74, 75, 76, 77, 78, 6]) (u := u) (k := 70) (i := 18) (by rw [hN]; decide) rfl f70
            have f72 : u 20 = .agg #[.bool (neg (x)), .string (mag (x))] := hf 20 (by decide)
            have e72 := frm_head (ds := [52, 53, 54, 55, 56, 57, 58, 59, 60, 61, 62, 63, 64, 65, 66, 67, 68, 69, 70, 71, 72, 73, 74, 75, 76, 77, 78, 6]) (u := u) (k := 72) (i := 20) (by rw [hN]; decide) rfl f72
            have fg : u 14 = .bool true := hf 14 (by decide)
            generalize (frm A [52, 53, 54, 55, 56, 57, 58, 59, 60, 61, 62, 63, 64, 65, 66, 67, 68, 69, 70, 71, 72, 73, 74, 75, 76, 77, 78, 6] u).eval = ev at *
            refine k_val (.bool true) ⟨_, fg, rfl⟩ rfl hG ?_ rfl
            simp [go_sem, e70, e72]
          · intro u W hG hf
            have f68 : u 16 = .bool true := hf 16 (by decide)
            have e68 := frm_head (ds := [52, 53, 54, 55, 56, 57, 58, 59, 60, 61, 62, 63, 64, 65, 66, 67, 68, 69, 70, 71, 72, 73, 74, 75, 76, 77, 78, 6]) (u := u) (k := 68) (i := 16) (by rw [hN]; decide) rfl f68
            have f73 : u 21 = .bool true := hf 21 (by decide)
            have e73 := frm_head (ds := [52, 53, 54, 55, 56, 57, 58, 59, 60, 61, 62, 63, 64, 65, 66, 67, 68, 69, 70, 71, 72, 73, 74, 75, 76, 77, 78, 6]) (u := u) (k := 73) (i := 21) (by rw [hN]; decide) rfl f73
            have fg : u 14 = .bool true := hf 14 (by decide)
            generalize (frm A [52, 53, 54, 55, 56, 57, 58, 59, 60, 61, 62, 63, 64, 65, 66, 67, 68, 69, 70, 71, 72, 73, 74, 75, 76, 77, 78, 6] u).eval = ev at *
            refine k_val (.bool true) ⟨_, fg, rfl⟩ rfl hG ?_ rfl
            simp [go_sem, e68, e73]
          · intro u W hG hf
            have f66 : u 14 = .bool true := hf 14 (by decide)
            have e66 := frm_head (ds := [52, 53, 54, 55, 56, 57, 58, 59, 60, 61, 62, 63, 64, 65, 66, 67, 68, 69, 70, 71, 72, 73, 74, 75, 76, 77, 78, 6]) (u := u) (k := 66) (i := 14) (by rw [hN]; decide) rfl f66
            have f74 : u 22 = .bool true := hf 22 (by decide)
            have e74 := frm_head (ds := [52, 53, 54, 55, 56, 57, 58, 59, 60, 61, 62, 63, 64, 65, 66, 67, 68, 69, 70, 71, 72, 73, 74, 75, 76, 77, 78, 6]) (u := u) (k := 74) (i := 22) (by rw [hN]; decide) rfl f74
            generalize (frm A [52, 53, 54, 55, 56, 57, 58, 59, 60, 61, 62, 63, 64, 65, 66, 67, 68, 69, 70, 71, 72, 73, 74, 75, 76, 77, 78, 6] u).eval = ev at *
            refine k_val (.bool true) rfl rfl hG ?_ rfl
            simp [go_sem, e66, e74]
          · intro u W hG hf
            have f75 : u 23 = .bool true := hf 23 (by decide)
            have e75 := frm_head (ds := [52, 53, 54, 55, 56, 57, 58, 59, 60, 61, 62, 63, 64, 65, 66, 67, 68, 69, 70, 71, 72, 73, 74, 75, 76, 77, 78, 6]) (u := u) (k := 75) (i := 23) (by rw [hN]; decide) rfl f75
            generalize (frm A [52, 53, 54, 55, 56, 57, 58, 59, 60, 61, 62, 63, 64, 65, 66, 67, 68, 69, 70, 71, 72, 73, 74, 75, 76, 77, 78, 6] u).eval = ev at *
            refine k_val (.bool true) rfl rfl hG ?_ rfl
            simp [go_sem, e75]
          · intro u W hG hf
            have fg : u 24 = .bool true := hf 24 (by decide)
            have ef : ∀ f, (frm A [52, 53, 54, 55, 56, 57, 58, 59, 60, 61, 62, 63, 64, 65, 66, 67, 68, 69, 70, 71, 72, 73, 74, 75, 76, 77, 78, 6] u).eval (.func f) = .func (.func f) #[] #[] := fun _ => rfl
            generalize (frm A [52, 53, 54, 55, 56, 57, 58, 59, 60, 61, 62, 63, 64, 65, 66, 67, 68, 69, 70, 71, 72, 73, 74, 75, 76, 77, 78, 6] u).eval = ev at *
            exact k_call _ _ ⟨_, fg, rfl⟩ rfl (by simp [go_sem, ef]) (HA.out W (nxt hB hG)) (fun w' hb => nxt hG hb) (fun _ _ => rfl)
          · intro u W hG hf
            have f76 : u 24 = .bool true := hf 24 (by decide)
            have e76 := frm_head (ds := [52, 53, 54, 55, 56, 57, 58, 59, 60, 61, 62, 63, 64, 65, 66, 67, 68, 69, 70, 71, 72, 73, 74, 75, 76, 77, 78, 6]) (u := u) (k := 76) (i := 24) (by rw [hN]; decide) rfl f76
            have f77 : u 25 = .bool true := hf 25 (by decide)
            have e77 := frm_head (ds := [52, 53, 54, 55, 56, 57, 58, 59, 60, 61, 62, 63, 64, 65, 66, 67, 68, 69, 70, 71, 72, 73, 74, 75, 76, 77, 78, 6]) (u := u) (k := 77) (i := 25) (by rw [hN]; decide) rfl f77
            generalize (frm A [52, 53, 54, 55, 56, 57, 58, 59, 60, 61, 62, 63, 64, 65, 66, 67, 68, 69, 70, 71, 72, 73, 74, 75, 76, 77, 78, 6] u).eval = ev at *
            refine k_val (.bool true) rfl rfl hG ?_ rfl
            simp [go_sem, e76, e77]
          · intro u W hG hf
            have f78 : u 26 = .bool true := hf 26 (by decide)
            have e78 := frm_head (ds := [52, 53, 54, 55, 56, 57, 58, 59, 60, 61, 62, 63, 64, 65, 66, 67, 68, 69, 70, 71, 72, 73, 74, 75, 76, 77, 78, 6]) (u := u) (k := 78) (i := 26) (by rw [hN]; decide) rfl f78
            generalize (frm A [52, 53, 54, 55, 56, 57, 58, 59, 60, 61, 62, 63, 64, 65, 66, 67, 68, 69, 70, 71, 72, 73, 74, 75, 76, 77, 78, 6] u).eval = ev at *
            refine k_val (.bool true) rfl rfl hG ?_ rfl
            simp [go_sem, e78]
        case hlate =>
          intro A _
          exact ⟨trivial, trivial, trivial, trivial, trivial, trivial, trivial, trivial, trivial, trivial, trivial, trivial, trivial, trivial, trivial, trivial, trivial, trivial, trivial, trivial, trivial, trivial, trivial, trivial, trivial, trivial, trivial, trivial, trivial⟩
        case htail =>
          intro u w4 hG hP' _
          have f6 : u 27 = .bool true := hP' 27 (by decide)
          simp only [putAll, Act.put, List.setIfInBounds_toArray, List.set_cons_zero, List.set_cons_succ, List.length_cons, List.length_nil, Nat.reduceAdd, List.drop_succ_cons, List.drop_zero, f6]
          go_wp2
          go_ret
          exact ⟨rfl, nxt hB hG⟩
      · replace hP := Int.not_lt.1 hP
        have hQ : q ≤ 0 := by
          rw [← hq]
          rw [← hp] at hP
          have h1 := sgn_le hP
          refine Int.not_lt.1 fun h2 => ?_
          have := sgn_gt.1 h2
          omega
        refine wp_region_know [52, 53, 54, 55, 56, 57, 58, 59, 60, 61, 62, 63, 64, 65, 66, 67, 68, 69, 70, 71, 72, 73, 74, 75, 76, 77, 78, 6] (fun W => Below w3.heap.size w3 W) (kAt [eqK (.int .i64 (o)), eqK (.bool false), eqK (.bool false), eqK (.agg #[.bool a2, .string s2]), eqK (.agg #[.bool a3, .string s3]), eqK (.int .i64 (p)), eqK (.bool false), eqK (.bool false), eqK (.bool false), eqK (.agg #[.bool a1, .string s1]), eqK (.agg #[.bool a3, .string s3]), eqK (.int .i64 (q)), eqK (.bool true), eqK (.bool true), eqK (.bool true), eqK (.int .i64 (o)), eqK (.bool true), eqK (.agg #[.bool a1, .string s1]), eqK (.agg #[.bool (neg (x)), .string (mag (x))]), eqK (.agg #[.bool a2, .string s2]), eqK (.agg #[.bool (neg (x)), .string (mag (x))]), eqK (.bool true), eqK (.bool true), eqK (.bool true), eqK (.bool true), eqK (.bool true), eqK (.bool true), eqK (.bool true)])
          (fun _ => true) (fun _ => false) (by kernel_rfl) (by kernel_rfl) (fun _ _ _ _ _ h => h) (by kernel_rfl) (by kernel_rfl) 79 rfl (by kernel_rfl) (by kernel_rfl) ?hG (fun i v w w' hi => kAt_stab (by exact ⟨stab_eq _, stab_eq _, stab_eq _, stab_eq _, stab_eq _, stab_eq _, stab_eq _, stab_eq _, stab_eq _, stab_eq _, stab_eq _, stab_eq _, stab_eq _, stab_eq _, stab_eq _, stab_eq _, stab_eq _, stab_eq _, stab_eq _, stab_eq _, stab_eq _, stab_eq _, stab_eq _, stab_eq _, stab_eq _, stab_eq _, stab_eq _, stab_eq _, trivial⟩) _ i v w w' hi) (fun _ _ _ _ hf _ => absurd hf Bool.false_ne_true) ?hop ?hlate ?htail
        case hG => exact (Below.refl _ _).drew
        case hop =>
          intro A hA
          have hN : A.tmps.size = 79 := by rw [hA]; rfl
          have q3 : A.tmps.getD 3 undef = .pointer (some ⟨w.heap.size, 0, none⟩) := by rw [hA]; rfl
          have q4 : A.tmps.getD 4 undef = .pointer (some ⟨w.heap.size + 1, 0, none⟩) := by rw [hA]; rfl
          have q5 : A.tmps.getD 5 undef = .pointer (some ⟨w.heap.size + 2, 0, none⟩) := by rw [hA]; rfl
          have q7 : A.tmps.getD 7 undef = .int .i64 (o) := by rw [hA]; rfl
          clear hA
          refine ⟨?_, ?_, ?_, ?_, ?_, ?_, ?_, ?_, ?_, ?_, ?_, ?_, ?_, ?_, ?_, ?_, ?_, ?_, ?_, ?_, ?_, ?_, ?_, ?_, ?_, ?_, ?_, ?_, trivial⟩
          · intro u W hG hf
            have e7 := frm_base (ds := [52, 53, 54, 55, 56, 57, 58, 59, 60, 61, 62, 63, 64, 65, 66, 67, 68, 69, 70, 71, 72, 73, 74, 75, 76, 77, 78, 6]) (u := u) (k := 7) (by rw [hN]; decide) rfl q7
            generalize (frm A [52, 53, 54, 55, 56, 57, 58, 59, 60, 61, 62, 63, 64, 65, 66, 67, 68, 69, 70, 71, 72, 73, 74, 75, 76, 77, 78, 6] u).eval = ev at *
            refine k_val (.int .i64 (o)) rfl rfl hG ?_ rfl
            simp [go_sem, e7]
          · intro u W hG hf
            have f52 : u 0 = .int .i64 (o) := hf 0 (by decide)
            have e52 := frm_head (ds := [52, 53, 54, 55, 56, 57, 58, 59, 60, 61, 62, 63, 64, 65, 66, 67, 68, 69, 70, 71, 72, 73, 74, 75, 76, 77, 78, 6]) (u := u) (k := 52) (i := 0) (by rw [hN]; decide) rfl f52
            have ec : ∀ v, (frm A [52, 53, 54, 55, 56, 57, 58, 59, 60, 61, 62, 63, 64, 65, 66, 67, 68, 69, 70, 71, 72, 73, 74, 75, 76, 77, 78, 6] u).eval (.const v) = v := fun _ => rfl
            generalize (frm A [52, 53, 54, 55, 56, 57, 58, 59, 60, 61, 62, 63, 64, 65, 66, 67, 68, 69, 70, 71, 72, 73, 74, 75, 76, 77, 78, 6] u).eval = ev at *
            refine k_val (.bool false) rfl rfl hG ?_ rfl
            simp [go_sem, ec, e52, hO]
          · intro u W hG hf
            have f53 : u 1 = .bool false := hf 1 (by decide)
            have e53 := frm_head (ds := [52, 53, 54, 55, 56, 57, 58, 59, 60, 61, 62, 63, 64, 65, 66, 67, 68, 69, 70, 71, 72, 73, 74, 75, 76, 77, 78, 6]) (u := u) (k := 53) (i := 1) (by rw [hN]; decide) rfl f53
            generalize (frm A [52, 53, 54, 55, 56, 57, 58, 59, 60, 61, 62, 63, 64, 65, 66, 67, 68, 69, 70, 71, 72, 73, 74, 75, 76, 77, 78, 6] u).eval = ev at *
            refine k_val (.bool false) rfl rfl hG ?_ rfl
            simp [go_sem, e53]
          · intro u W hG hf
            have e4 := frm_base (ds := [52, 53, 54, 55, 56, 57, 58, 59, 60, 61, 62, 63, 64, 65, 66, 67, 68, 69, 70, 71, 72, 73, 74, 75, 76, 77, 78, 6]) (u := u) (k := 4) (by rw [hN]; decide) rfl q4
            have fg : u 2 = .bool false := hf 2 (by decide)
            generalize (frm A [52, 53, 54, 55, 56, 57, 58, 59, 60, 61, 62, 63, 64, 65, 66, 67, 68, 69, 70, 71, 72, 73, 74, 75, 76, 77, 78, 6] u).eval = ev at *
            have hx := X2.later hG
            have y0 := hx.cel 0
            have y1 := hx.cel 1
            simp at y0 y1
            refine k_val (.agg #[.bool a2, .string s2]) ⟨_, fg, rfl⟩ rfl hG ?_ rfl
            simp [go_sem, e4, y0, y1]
          · intro u W hG hf
            have e5 := frm_base (ds := [52, 53, 54, 55, 56, 57, 58, 59, 60, 61, 62, 63, 64, 65, 66, 67, 68, 69, 70, 71, 72, 73, 74, 75, 76, 77, 78, 6]) (u := u) (k := 5) (by rw [hN]; decide) rfl q5
            have fg : u 2 = .bool false := hf 2 (by decide)
            generalize (frm A [52, 53, 54, 55, 56, 57, 58, 59, 60, 61, 62, 63, 64, 65, 66, 67, 68, 69, 70, 71, 72, 73, 74, 75, 76, 77, 78, 6] u).eval = ev at *
            have hx := X3.later hG
            have y0 := hx.cel 0
            have y1 := hx.cel 1
            simp at y0 y1
            refine k_val (.agg #[.bool a3, .string s3]) ⟨_, fg, rfl⟩ rfl hG ?_ rfl
            simp [go_sem, e5, y0, y1]
          · intro u W hG hf
            have f55 : u 3 = .agg #[.bool a2, .string s2] := hf 3 (by decide)
            have e55 := frm_head (ds := [52, 53, 54, 55, 56, 57, 58, 59, 60, 61, 62, 63, 64, 65, 66, 67, 68, 69, 70, 71, 72, 73, 74, 75, 76, 77, 78, 6]) (u := u) (k := 55) (i := 3) (by rw [hN]; decide) rfl f55
            have f56 : u 4 = .agg #[.bool a3, .string s3] := hf 4 (by decide)
            have e56 := frm_head (ds := [52, 53, 54, 55, 56, 57, 58, 59, 60, 61, 62, 63, 64, 65, 66, 67, 68, 69, 70, 71, 72, 73, 74, 75, 76, 77, 78, 6]) (u := u) (k := 56) (i := 4) (by rw [hN]; decide) rfl f56
            have fg : u 2 = .bool false := hf 2 (by decide)
            have ef : ∀ f, (frm A [52, 53, 54, 55, 56, 57, 58, 59, 60, 61, 62, 63, 64, 65, 66, 67, 68, 69, 70, 71, 72, 73, 74, 75, 76, 77, 78, 6] u).eval (.func f) = .func (.func f) #[] #[] := fun _ => rfl
            generalize (frm A [52, 53, 54, 55, 56, 57, 58, 59, 60, 61, 62, 63, 64, 65, 66, 67, 68, 69, 70, 71, 72, 73, 74, 75, 76, 77, 78, 6] u).eval = ev at *
            exact k_call _ _ ⟨_, fg, rfl⟩ rfl (by simp [go_sem, ef, e55, e56]) (wCmpN n2 n3 (hp)) (fun w' hb => nxt hG hb) (fun _ _ => rfl)
          · intro u W hG hf
            have f57 : u 5 = .int .i64 (p) := hf 5 (by decide)
            have e57 := frm_head (ds := [52, 53, 54, 55, 56, 57, 58, 59, 60, 61, 62, 63, 64, 65, 66, 67, 68, 69, 70, 71, 72, 73, 74, 75, 76, 77, 78, 6]) (u := u) (k := 57) (i := 5) (by rw [hN]; decide) rfl f57
            have fg : u 2 = .bool false := hf 2 (by decide)
            have ec : ∀ v, (frm A [52, 53, 54, 55, 56, 57, 58, 59, 60, 61, 62, 63, 64, 65, 66, 67, 68, 69, 70, 71, 72, 73, 74, 75, 76, 77, 78, 6] u).eval (.const v) = v := fun _ => rfl
            generalize (frm A [52, 53, 54, 55, 56, 57, 58, 59, 60, 61, 62, 63, 64, 65, 66, 67, 68, 69, 70, 71, 72, 73, 74, 75, 76, 77, 78, 6] u).eval = ev at *
            refine k_val (.bool false) ⟨_, fg, rfl⟩ rfl hG ?_ rfl
            simp [go_sem, ec, e57, hP]
          · intro u W hG hf
            have f54 : u 2 = .bool false := hf 2 (by decide)
            have e54 := frm_head (ds := [52, 53, 54, 55, 56, 57, 58, 59, 60, 61, 62, 63, 64, 65, 66, 67, 68, 69, 70, 71, 72, 73, 74, 75, 76, 77, 78, 6]) (u := u) (k := 54) (i := 2) (by rw [hN]; decide) rfl f54
            have f58 : u 6 = .bool false := hf 6 (by decide)
            have e58 := frm_head (ds := [52, 53, 54, 55, 56, 57, 58, 59, 60, 61, 62, 63, 64, 65, 66, 67, 68, 69, 70, 71, 72, 73, 74, 75, 76, 77, 78, 6]) (u := u) (k := 58) (i := 6) (by rw [hN]; decide) rfl f58
            generalize (frm A [52, 53, 54, 55, 56, 57, 58, 59, 60, 61, 62, 63, 64, 65, 66, 67, 68, 69, 70, 71, 72, 73, 74, 75, 76, 77, 78, 6] u).eval = ev at *
            refine k_val (.bool false) rfl rfl hG ?_ rfl
            simp [go_sem, e54, e58]
          · intro u W hG hf
            have f59 : u 7 = .bool false := hf 7 (by decide)
            have e59 := frm_head (ds := [52, 53, 54, 55, 56, 57, 58, 59, 60, 61, 62, 63, 64, 65, 66, 67, 68, 69, 70, 71, 72, 73, 74, 75, 76, 77, 78, 6]) (u := u) (k := 59) (i := 7) (by rw [hN]; decide) rfl f59
            generalize (frm A [52, 53, 54, 55, 56, 57, 58, 59, 60, 61, 62, 63, 64, 65, 66, 67, 68, 69, 70, 71, 72, 73, 74, 75, 76, 77, 78, 6] u).eval = ev at *
            refine k_val (.bool false) rfl rfl hG ?_ rfl
            simp [go_sem, e59]
          · intro u W hG hf
            have e3 := frm_base (ds := [52, 53, 54, 55, 56, 57, 58, 59, 60, 61, 62, 63, 64, 65, 66, 67, 68, 69, 70, 71, 72, 73, 74, 75, 76, 77, 78, 6]) (u := u) (k := 3) (by rw [hN]; decide) rfl q3
            have fg : u 8 = .bool false := hf 8 (by decide)
            generalize (frm A [52, 53, 54, 55, 56, 57, 58, 59, 60, 61, 62, 63, 64, 65, 66, 67, 68, 69, 70, 71, 72, 73, 74, 75, 76, 77, 78, 6] u).eval = ev at *
            have hx := X1.later hG
            have y0 := hx.cel 0
            have y1 := hx.cel 1
            simp at y0 y1
            refine k_val (.agg #[.bool a1, .string s1]) ⟨_, fg, rfl⟩ rfl hG ?_ rfl
            simp [go_sem, e3, y0, y1]
          · intro u W hG hf
            have e5 := frm_base (ds := [52, 53, 54, 55, 56, 57, 58, 59, 60, 61, 62, 63, 64, 65, 66, 67, 68, 69, 70, 71, 72, 73, 74, 75, 76, 77, 78, 6]) (u := u) (k := 5) (by rw [hN]; decide) rfl q5
            have fg : u 8 = .bool false := hf 8 (by decide)
            generalize (frm A [52, 53, 54, 55, 56, 57, 58, 59, 60, 61, 62, 63, 64, 65, 66, 67, 68, 69, 70, 71, 72, 73, 74, 75, 76, 77, 78, 6] u).eval = ev at *
            have hx := X3.later hG
            have y0 := hx.cel 0
            have y1 := hx.cel 1
            simp at y0 y1
            refine k_val (.agg #[.bool a3, .string s3]) ⟨_, fg, rfl⟩ rfl hG ?_ rfl
            simp [go_sem, e5, y0, y1]
          · intro u W hG hf
            have f61 : u 9 = .agg #[.bool a1, .string s1] := hf 9 (by decide)
            have e61 := frm_head (ds := [52, 53, 54, 55, 56, 57, 58, 59, 60, 61, 62, 63, 64, 65, 66, 67, 68, 69, 70, 71, 72, 73, 74, 75, 76, 77, 78, 6]) (u := u) (k := 61) (i := 9) (by rw [hN]; decide) rfl f61
            have f62 : u 10 = .agg #[.bool a3, .string s3] := hf 10 (by decide)
            have e62 := frm_head (ds := [52, 53, 54, 55, 56, 57, 58, 59, 60, 61, 62, 63, 64, 65, 66, 67, 68, 69, 70, 71, 72, 73, 74, 75, 76, 77, 78, 6]) (u := u) (k := 62) (i := 10) (by rw [hN]; decide) rfl f62
            have fg : u 8 = .bool false := hf 8 (by decide)
            have ef : ∀ f, (frm A [52, 53, 54, 55, 56, 57, 58, 59, 60, 61, 62, 63, 64, 65, 66, 67, 68, 69, 70, 71, 72, 73, 74, 75, 76, 77, 78, 6] u).eval (.func f) = .func (.func f) #[] #[] := fun _ => rfl
            generalize (frm A [52, 53, 54, 55, 56, 57, 58, 59, 60, 61, 62, 63, 64, 65, 66, 67, 68, 69, 70, 71, 72, 73, 74, 75, 76, 77, 78, 6] u).eval = ev at *
            exact k_call _ _ ⟨_, fg, rfl⟩ rfl (by simp [go_sem, ef, e61, e62]) (wCmpN n1 n3 (hq)) (fun w' hb => nxt hG hb) (fun _ _ => rfl)
          · intro u W hG hf
            have f63 : u 11 = .int .i64 (q) := hf 11 (by decide)
            have e63 := frm_head (ds := [52, 53, 54, 55, 56, 57, 58, 59, 60, 61, 62, 63, 64, 65, 66, 67, 68, 69, 70, 71, 72, 73, 74, 75, 76, 77, 78, 6]) (u := u) (k := 63) (i := 11) (by rw [hN]; decide) rfl f63
            have fg : u 8 = .bool false := hf 8 (by decide)
            have ec : ∀ v, (frm A [52, 53, 54, 55, 56, 57, 58, 59, 60, 61, 62, 63, 64, 65, 66, 67, 68, 69, 70, 71, 72, 73, 74, 75, 76, 77, 78, 6] u).eval (.const v) = v := fun _ => rfl
            generalize (frm A [52, 53, 54, 55, 56, 57, 58, 59, 60, 61, 62, 63, 64, 65, 66, 67, 68, 69, 70, 71, 72, 73, 74, 75, 76, 77, 78, 6] u).eval = ev at *
            refine k_val (.bool true) ⟨_, fg, rfl⟩ rfl hG ?_ rfl
            simp [go_sem, ec, e63, hQ]
          · intro u W hG hf
            have f60 : u 8 = .bool false := hf 8 (by decide)
            have e60 := frm_head (ds := [52, 53, 54, 55, 56, 57, 58, 59, 60, 61, 62, 63, 64, 65, 66, 67, 68, 69, 70, 71, 72, 73, 74, 75, 76, 77, 78, 6]) (u := u) (k := 60) (i := 8) (by rw [hN]; decide) rfl f60
            have f64 : u 12 = .bool true := hf 12 (by decide)
            have e64 := frm_head (ds := [52, 53, 54, 55, 56, 57, 58, 59, 60, 61, 62, 63, 64, 65, 66, 67, 68, 69, 70, 71, 72, 73, 74, 75, 76, 77, 78, 6]) (u := u) (k := 64) (i := 12) (by rw [hN]; decide) rfl f64
            generalize (frm A [52, 53, 54, 55, 56, 57, 58, 59, 60, 61, 62, 63, 64, 65, 66, 67, 68, 69, 70, 71, 72, 73, 74, 75, 76, 77, 78, 6] u).eval = ev at *
            refine k_val (.bool true) rfl rfl hG ?_ rfl
            simp [go_sem, e60, e64]
          · intro u W hG hf
            have f65 : u 13 = .bool true := hf 13 (by decide)
            have e65 := frm_head (ds := [52, 53, 54, 55, 56, 57, 58, 59, 60, 61, 62, 63, 64, 65, 66, 67, 68, 69, 70, 71, 72, 73, 74, 75, 76, 77, 78, 6]) (u := u) (k := 65) (i := 13) (by rw [hN]; decide) rfl f65
            generalize (frm A [52, 53, 54, 55, 56, 57, 58, 59, 60, 61, 62, 63, 64, 65, 66, 67, 68, 69, 70, 71, 72, 73, 74, 75, 76, 77, 78, 6] u).eval = ev at *
            refine k_val (.bool true) rfl rfl hG ?_ rfl
            simp [go_sem, e65]
          · intro u W hG hf
            have e7 := frm_base (ds := [52, 53, 54, 55, 56, 57, 58, 59, 60, 61, 62, 63, 64, 65, 66, 67, 68, 69, 70, 71, 72, 73, 74, 75, 76, 77, 78, 6]) (u := u) (k := 7) (by rw [hN]; decide) rfl q7
            have fg : u 14 = .bool true := hf 14 (by decide)
            generalize (frm A [52, 53, 54, 55, 56, 57, 58, 59, 60, 61, 62, 63, 64, 65, 66, 67, 68, 69, 70, 71, 72, 73, 74, 75, 76, 77, 78, 6] u).eval = ev at *
            refine k_val (.int .i64 (o)) ⟨_, fg, rfl⟩ rfl hG ?_ rfl
            simp [go_sem, e7]
          · intro u W hG hf
            have f67 : u 15 = .int .i64 (o) := hf 15 (by decide)
            have e67 := frm_head (ds := [52, 53, 54, 55, 56, 57, 58, 59, 60, 61, 62, 63, 64, 65, 66, 67, 68, 69, 70, 71, 72, 73, 74, 75, 76, 77, 78, 6]) (u := u) (k := 67) (i := 15) (by rw [hN]; decide) rfl f67
            have fg : u 14 = .bool true := hf 14 (by decide)
            have ec : ∀ v, (frm A [52, 53, 54, 55, 56, 57, 58, 59, 60, 61, 62, 63, 64, 65, 66, 67, 68, 69, 70, 71, 72, 73, 74, 75, 76, 77, 78, 6] u).eval (.const v) = v := fun _ => rfl
            generalize (frm A [52, 53, 54, 55, 56, 57, 58, 59, 60, 61, 62, 63, 64, 65, 66, 67, 68, 69, 70, 71, 72, 73, 74, 75, 76, 77, 78, 6] u).eval = ev at *
            refine k_val (.bool true) ⟨_, fg, rfl⟩ rfl hG ?_ rfl
            simp [go_sem, ec, e67, hz]
          · intro u W hG hf
            have e3 := frm_base (ds := [52, 53, 54, 55, 56, 57, 58, 59, 60, 61, 62, 63, 64, 65, 66, 67, 68, 69, 70, 71, 72, 73, 74, 75, 76, 77, 78, 6]) (u := u) (k := 3) (by rw [hN]; decide) rfl q3
            have fg : u 14 = .bool true := hf 14 (by decide)
            generalize (frm A [52, 53, 54, 55, 56, 57, 58, 59, 60, 61, 62, 63, 64, 65, 66, 67, 68, 69, 70, 71, 72, 73, 74, 75, 76, 77, 78, 6] u).eval = ev at *
            have hx := X1.later hG
            have y0 := hx.cel 0
            have y1 := hx.cel 1
            simp at y0 y1
            refine k_val (.agg #[.bool a1, .string s1]) ⟨_, fg, rfl⟩ rfl hG ?_ rfl
            simp [go_sem, e3, y0, y1]
          · intro u W hG hf
            have f69 : u 17 = .agg #[.bool a1, .string s1] := hf 17 (by decide)
            have e69 := frm_head (ds := [52, 53, 54, 55, 56, 57, 58, 59, 60, 61, 62, 63, 64, 65, 66, 67, 68, 69, 70, 71, 72, 73, 74, 75, 76, 77, 78, 6]) (u := u) (k := 69) (i := 17) (by rw [hN]; decide) rfl f69
            have fg : u 14 = .bool true := hf 14 (by decide)
            have ef : ∀ f, (frm A [52, 53, 54, 55, 56, 57, 58, 59, 60, 61, 62, 63, 64, 65, 66, 67, 68, 69, 70, 71, 72, 73, 74, 75, 76, 77, 78, 6] u).eval (.func f) = .func (.func f) #[] #[] := fun _ => rfl
            generalize (frm A [52, 53, 54, 55, 56, 57, 58, 59, 60, 61, 62, 63, 64, 65, 66, 67, 68, 69, 70, 71, 72, 73, 74, 75, 76, 77, 78, 6] u).eval = ev at *
            exact k_call _ _ ⟨_, fg, rfl⟩ rfl (by simp [go_sem, ef, e69]) (wFormN2 n1 (rfl)) (fun w' hb => nxt hG hb) (fun _ _ => rfl)
          · intro u W hG hf
            have e4 := frm_base (ds := [52, 53, 54, 55, 56, 57, 58, 59, 60, 61, 62, 63, 64, 65, 66, 67, 68, 69, 70, 71, 72, 73, 74, 75, 76, 77, 78, 6]) (u := u) (k := 4) (by rw [hN]; decide) rfl q4
            have fg : u 14 = .bool true := hf 14 (by decide)
            generalize (frm A [52, 53, 54, 55, 56, 57, 58, 59, 60, 61, 62, 63, 64, 65, 66, 67, 68, 69, 70, 71, 72, 73, 74, 75, 76, 77, 78, 6] u).eval = ev at *
            have hx := X2.later hG
            have y0 := hx.cel 0
            have y1 := hx.cel 1
            simp at y0 y1
            refine k_val (.agg #[.bool a2, .string s2]) ⟨_, fg, rfl⟩ rfl hG ?_ rfl
            simp [go_sem, e4, y0, y1]
          · intro u W hG hf
            have f71 : u 19 = .agg #[.bool a2, .string s2] := hf 19 (by decide)
            have e71 := frm_head (ds := [52, 53, 54, 55, 56, 57, 58, 59, 60, 61, 62, 63, 64, 65, 66, 67, 68, 69, 70, 71, 72, 73, 74, 75, 76, 77, 78, 6]) (u := u) (k := 71) (i := 19) (by rw [hN]; decide) rfl f71
            have fg : u 14 = .bool true := hf 14 (by decide)
            have ef : ∀ f, (frm A [52, 53, 54, 55, 56, 57, 58, 59, 60, 61, 62, 63, 64, 65, 66, 67, 68, 69, 70, 71, 72, 73, 74, 75, 76, 77, 78, 6] u).eval (.func f) = .func (.func f) #[] #[] := fun _ => rfl
            generalize (frm A [52, 53, 54, 55, 56, 57, 58, 59, 60, 61, 62, 63, 64, 65, 66, 67, 68, 69, 70, 71, 72, 73, 74, 75, 76, 77, 78, 6] u).eval = ev at *
            exact k_call _ _ ⟨_, fg, rfl⟩ rfl (by simp [go_sem, ef, e71]) (wFormN2 n2 (hyx)) (fun w' hb => nxt hG hb) (fun _ _ => rfl)
          · intro u W hG hf
            have f70 : u 18 = .agg #[.bool (neg (x)), .string (mag (x))] := hf 18 (by decide)
            have e70 := frm_head (ds := [52, 53, 54, 55, 56, 57, 58, 59, 60, 61, 62, 63, 64, 65, 66, 67, 68, 69, 70, 71, 72, 73, 74, 75, 76, 77, 78, 6]) (u := u) (k := 70) (i := 18) (by rw [hN]; decide) rfl f70
            have f72 : u 20 = .agg #[.bool (neg (x)), .string (mag (x))] := hf 20 (by decide)
            have e72 := frm_head (ds := [52, 53, 54, 55, 56, 57, 58, 59, 60, 61, 62, 63, 64, 65, 66, 67, 68, 69, 70, 71, 72, 73, 74, 75, 76, 77, 78, 6]) (u := u) (k := 72) (i := 20) (by rw [hN]; decide) rfl f72
            have fg : u 14 = .bool true := hf 14 (by decide)
            generalize (frm A [52, 53, 54, 55, 56, 57, 58, 59, 60, 61, 62, 63, 64, 65, 66, 67, 68, 69, 70, 71, 72, 73, 74, 75, 76, 77, 78, 6] u).eval = ev at *
            refine k_val (.bool true) ⟨_, fg, rfl⟩ rfl hG ?_ rfl
            simp [go_sem, e70, e72]
          · intro u W hG hf
            have f68 : u 16 = .bool true := hf 16 (by decide)
            have e68 := frm_head (ds := [52, 53, 54, 55, 56, 57, 58, 59, 60, 61, 62, 63, 64, 65, 66, 67, 68, 69, 70, 71, 72, 73, 74, 75, 76, 77, 78, 6]) (u := u) (k := 68) (i := 16) (by rw [hN]; decide) rfl f68
            have f73 : u 21 = .bool true := hf 21 (by decide)
            have e73 := frm_head (ds := [52, 53, 54, 55, 56, 57, 58, 59, 60, 61, 62, 63, 64, 65, 66, 67, 68, 69, 70, 71, 72, 73, 74, 75, 76, 77, 78, 6]) (u := u) (k := 73) (i := 21) (by rw [hN]; decide) rfl f73
            have fg : u 14 = .bool true := hf 14 (by decide)
            generalize (frm A [52, 53, 54, 55, 56, 57, 58, 59, 60, 61, 62, 63, 64, 65, 66, 67, 68, 69, 70, 71, 72, 73, 74, 75, 76, 77, 78, 6] u).eval = ev at *
            refine k_val (.bool true) ⟨_, fg, rfl⟩ rfl hG ?_ rfl
            simp [go_sem, e68, e73]
          · intro u W hG hf
            have f66 : u 14 = .bool true := hf 14 (by decide)
            have e66 := frm_head (ds := [52, 53, 54, 55, 56, 57, 58, 59, 60, 61, 62, 63, 64, 65, 66, 67, 68, 69, 70, 71, 72, 73, 74, 75, 76, 77, 78, 6]) (u := u) (k := 66) (i := 14) (by rw [hN]; decide) rfl f66
            have f74 : u 22 = .bool true := hf 22 (by decide)
            have e74 := frm_head (ds := [52, 53, 54, 55, 56, 57, 58, 59, 60, 61, 62, 63, 64, 65, 66, 67, 68, 69, 70, 71, 72, 73, 74, 75, 76, 77, 78, 6]) (u := u) (k := 74) (i := 22) (by rw [hN]; decide) rfl f74
            generalize (frm A [52, 53, 54, 55, 56, 57, 58, 59, 60, 61, 62, 63, 64, 65, 66, 67, 68, 69, 70, 71, 72, 73, 74, 75, 76, 77, 78, 6] u).eval = ev at *
            refine k_val (.bool true) rfl rfl hG ?_ rfl
            simp [go_sem, e66, e74]
          · intro u W hG hf
            have f75 : u 23 = .bool true := hf 23 (by decide)
            have e75 := frm_head (ds := [52, 53, 54, 55, 56, 57, 58, 59, 60, 61, 62, 63, 64, 65, 66, 67, 68, 69, 70, 71, 72, 73, 74, 75, 76, 77, 78, 6]) (u := u) (k := 75) (i := 23) (by rw [hN]; decide) rfl f75
            generalize (frm A [52, 53, 54, 55, 56, 57, 58, 59, 60, 61, 62, 63, 64, 65, 66, 67, 68, 69, 70, 71, 72, 73, 74, 75, 76, 77, 78, 6] u).eval = ev at *
            refine k_val (.bool true) rfl rfl hG ?_ rfl
            simp [go_sem, e75]
          · intro u W hG hf
            have fg : u 24 = .bool true := hf 24 (by decide)
            have ef : ∀ f, (frm A [52, 53, 54, 55, 56, 57, 58, 59, 60, 61, 62, 63, 64, 65, 66, 67, 68, 69, 70, 71, 72, 73, 74, 75, 76, 77, 78, 6] u).eval (.func f) = .func (.func f) #[] #[] := fun _ => rfl
            generalize (frm A [52, 53, 54, 55, 56, 57, 58, 59, 60, 61, 62, 63, 64, 65, 66, 67, 68, 69, 70, 71, 72, 73, 74, 75, 76, 77, 78, 6] u).eval = ev at *
            exact k_call _ _ ⟨_, fg, rfl⟩ rfl (by simp [go_sem, ef]) (HA.out W (nxt hB hG)) (fun w' hb => nxt hG hb) (fun _ _ => rfl)
          · intro u W hG hf
            have f76 : u 24 = .bool true := hf 24 (by decide)
            have e76 := frm_head (ds := [52, 53, 54, 55, 56, 57, 58, 59, 60, 61, 62, 63, 64, 65, 66, 67, 68, 69, 70, 71, 72, 73, 74, 75, 76, 77, 78, 6]) (u := u) (k := 76) (i := 24) (by rw [hN]; decide) rfl f76
            have f77 : u 25 = .bool true := hf 25 (by decide)
            have e77 := frm_head (ds := [52, 53, 54, 55, 56, 57, 58, 59, 60, 61, 62, 63, 64, 65, 66, 67, 68, 69, 70, 71, 72, 73, 74, 75, 76, 77, 78, 6]) (u := u) (k := 77) (i := 25) (by rw [hN]; decide) rfl f77
            generalize (frm A [52, 53, 54, 55, 56, 57, 58, 59, 60, 61, 62, 63, 64, 65, 66, 67, 68, 69, 70, 71, 72, 73, 74, 75, 76, 77, 78, 6] u).eval = ev at *
            refine k_val (.bool true) rfl rfl hG ?_ rfl
            simp [go_sem, e76, e77]
          · intro u W hG hf
            have f78 : u 26 = .bool true := hf 26 (by decide)
            have e78 := frm_head (ds := [52, 53, 54, 55, 56, 57, 58, 59, 60, 61, 62, 63, 64, 65, 66, 67, 68, 69, 70, 71, 72, 73, 74, 75, 76, 77, 78, 6]) (u := u) (k := 78) (i := 26) (by rw [hN]; decide) rfl f78
            generalize (frm A [52, 53, 54, 55, 56, 57, 58, 59, 60, 61, 62, 63, 64, 65, 66, 67, 68, 69, 70, 71, 72, 73, 74, 75, 76, 77, 78, 6] u).eval = ev at *
            refine k_val (.bool true) rfl rfl hG ?_ rfl
            simp [go_sem, e78]
        case hlate =>
          intro A _
          exact ⟨trivial, trivial, trivial, trivial, trivial, trivial, trivial, trivial, trivial, trivial, trivial, trivial, trivial, trivial, trivial, trivial, trivial, trivial, trivial, trivial, trivial, trivial, trivial, trivial, trivial, trivial, trivial, trivial, trivial⟩
        case htail =>
          intro u w4 hG hP' _
          have f6 : u 27 = .bool true := hP' 27 (by decide)
          simp only [putAll, Act.put, List.setIfInBounds_toArray, List.set_cons_zero, List.set_cons_succ, List.length_cons, List.length_nil, Nat.reduceAdd, List.drop_succ_cons, List.drop_zero, f6]
          go_wp2
          go_ret
          exact ⟨rfl, nxt hB hG⟩
    · have hxy : x ≠ y := fun h => by subst h; rw [Int.sub_self] at ho; exact hz ho.symm
      by_cases hP : 0 < p
      ·
        refine wp_region_know [52, 53, 54, 55, 56, 57, 58, 59, 60, 61, 62, 63, 64, 65, 66, 67, 68, 69, 70, 71, 72, 73, 74, 75, 76, 77, 78, 6] (fun W => Below w3.heap.size w3 W) (kAt [eqK (.int .i64 (o)), eqK (.bool false), eqK (.bool false), eqK (.agg #[.bool a2, .string s2]), eqK (.agg #[.bool a3, .string s3]), eqK (.int .i64 (p)), eqK (.bool true), eqK (.bool true), eqK (.bool true), eqK (undef), eqK (undef), eqK (undef), eqK (undef), eqK (.bool true), eqK (.bool true), eqK (.int .i64 (o)), eqK (.bool false), eqK (.agg #[.bool a1, .string s1]), eqK (.agg #[.bool (neg (x)), .string (mag (x))]), eqK (.agg #[.bool a2, .string s2]), eqK (.agg #[.bool (neg (y)), .string (mag (y))]), eqK (.bool false), eqK (.bool true), eqK (.bool true), eqK (.bool true), eqK (.bool true), eqK (.bool true), eqK (.bool true)])
          (fun _ => true) (fun _ => false) (by kernel_rfl) (by kernel_rfl) (fun _ _ _ _ _ h => h) (by kernel_rfl) (by kernel_rfl) 79 rfl (by kernel_rfl) (by kernel_rfl) ?hG (fun i v w w' hi => kAt_stab (by exact ⟨stab_eq _, stab_eq _, stab_eq _, stab_eq _, stab_eq _, stab_eq _, stab_eq _, stab_eq _, stab_eq _, stab_eq _, stab_eq _, stab_eq _, stab_eq _, stab_eq _, stab_eq _, stab_eq _, stab_eq _, stab_eq _, stab_eq _, stab_eq _, stab_eq _, stab_eq _, stab_eq _, stab_eq _, stab_eq _, stab_eq _, stab_eq _, stab_eq _, trivial⟩) _ i v w w' hi) (fun _ _ _ _ hf _ => absurd hf Bool.false_ne_true) ?hop ?hlate ?htail
        case hG => exact (Below.refl _ _).drew
        case hop =>
          intro A hA
          have hN : A.tmps.size = 79 := by rw [hA]; rfl
          have q3 : A.tmps.getD 3 undef = .pointer (some ⟨w.heap.size, 0, none⟩) := by rw [hA]; rfl
          have q4 : A.tmps.getD 4 undef = .pointer (some ⟨w.heap.size + 1, 0, none⟩) := by rw [hA]; rfl
          have q5 : A.tmps.getD 5 undef = .pointer (some ⟨w.heap.size + 2, 0, none⟩) := by rw [hA]; rfl
          have q7 : A.tmps.getD 7 undef = .int .i64 (o) := by rw [hA]; rfl
          clear hA
          refine ⟨?_, ?_, ?_, ?_, ?_, ?_, ?_, ?_, ?_, ?_, ?_, ?_, ?_, ?_, ?_, ?_, ?_, ?_, ?_, ?_, ?_, ?_, ?_, ?_, ?_, ?_, ?_, ?_, trivial⟩
          · intro u W hG hf
            have e7 := frm_base (ds := [52, 53, 54, 55, 56, 57, 58, 59, 60, 61, 62, 63, 64, 65, 66, 67, 68, 69, 70, 71, 72, 73, 74, 75, 76, 77, 78, 6]) (u := u) (k := 7) (by rw [hN]; decide) rfl q7
            generalize (frm A [52, 53, 54, 55, 56, 57, 58, 59, 60, 61, 62, 63, 64, 65, 66, 67, 68, 69, 70, 71, 72, 73, 74, 75, 76, 77, 78, 6] u).eval = ev at *
            refine k_val (.int .i64 (o)) rfl rfl hG ?_ rfl
            simp [go_sem, e7]
          · intro u W hG hf
            have f52 : u 0 = .int .i64 (o) := hf 0 (by decide)
            have e52 := frm_head (ds := [52, 53, 54, 55, 56, 57, 58, 59, 60, 61, 62, 63, 64, 65, 66, 67, 68, 69, 70, 71, 72, 73, 74, 75, 76, 77, 78, 6]) (u := u) (k := 52) (i := 0) (by rw [hN]; decide) rfl f52
            have ec : ∀ v, (frm A [52, 53, 54, 55, 56, 57, 58, 59, 60, 61, 62, 63, 64, 65, 66, 67, 68, 69, 70, 71, 72, 73, 74, 75, 76, 77, 78, 6] u).eval (.const v) = v := fun _ => rfl
            generalize (frm A [52, 53, 54, 55, 56, 57, 58, 59, 60, 61, 62, 63, 64, 65, 66, 67, 68, 69, 70, 71, 72, 73, 74, 75, 76, 77, 78, 6] u).eval = ev at *
            refine k_val (.bool false) rfl rfl hG ?_ rfl
            simp [go_sem, ec, e52, hO]
          · intro u W hG hf
            have f53 : u 1 = .bool false := hf 1 (by decide)
            have e53 := frm_head (ds := [52, 53, 54, 55, 56, 57, 58, 59, 60, 61, 62, 63, 64, 65, 66, 67, 68, 69, 70, 71, 72, 73, 74, 75, 76, 77, 78, 6]) (u := u) (k := 53) (i := 1) (by rw [hN]; decide) rfl f53
            generalize (frm A [52, 53, 54, 55, 56, 57, 58, 59, 60, 61, 62, 63, 64, 65, 66, 67, 68, 69, 70, 71, 72, 73, 74, 75, 76, 77, 78, 6] u).eval = ev at *
            refine k_val (.bool false) rfl rfl hG ?_ rfl
            simp [go_sem, e53]
          · intro u W hG hf
            have e4 := frm_base (ds := [52, 53, 54, 55, 56, 57, 58, 59, 60, 61, 62, 63, 64, 65, 66, 67, 68, 69, 70, 71, 72, 73, 74, 75, 76, 77, 78, 6]) (u := u) (k := 4) (by rw [hN]; decide) rfl q4
            have fg : u 2 = .bool false := hf 2 (by decide)
            generalize (frm A [52, 53, 54, 55, 56, 57, 58, 59, 60, 61, 62, 63, 64, 65, 66, 67, 68, 69, 70, 71, 72, 73, 74, 75, 76, 77, 78, 6] u).eval = ev at *
            have hx := X2.later hG
            have y0 := hx.cel 0
            have y1 := hx.cel 1
            simp at y0 y1
            refine k_val (.agg #[.bool a2, .string s2]) ⟨_, fg, rfl⟩ rfl hG ?_ rfl
            simp [go_sem, e4, y0, y1]
          · intro u W hG hf
            have e5 := frm_base (ds := [52, 53, 54, 55, 56, 57, 58, 59, 60, 61, 62, 63, 64, 65, 66, 67, 68, 69, 70, 71, 72, 73, 74, 75, 76, 77, 78, 6]) (u := u) (k := 5) (by rw [hN]; decide) rfl q5
            have fg : u 2 = .bool false := hf 2 (by decide)
            generalize (frm A [52, 53, 54, 55, 56, 57, 58, 59, 60, 61, 62, 63, 64, 65, 66, 67, 68, 69, 70, 71, 72, 73, 74, 75, 76, 77, 78, 6] u).eval = ev at *
            have hx := X3.later hG
            have y0 := hx.cel 0
            have y1 := hx.cel 1
            simp at y0 y1
            refine k_val (.agg #[.bool a3, .string s3]) ⟨_, fg, rfl⟩ rfl hG ?_ rfl
            simp [go_sem, e5, y0, y1]
          · intro u W hG hf
            have f55 : u 3 = .agg #[.bool a2, .string s2] := hf 3 (by decide)
            have e55 := frm_head (ds := [52, 53, 54, 55, 56, 57, 58, 59, 60, 61, 62, 63, 64, 65, 66, 67, 68, 69, 70, 71, 72, 73, 74, 75, 76, 77, 78, 6]) (u := u) (k := 55) (i := 3) (by rw [hN]; decide) rfl f55
            have f56 : u 4 = .agg #[.bool a3, .string s3] := hf 4 (by decide)
            have e56 := frm_head (ds := [52, 53, 54, 55, 56, 57, 58, 59, 60, 61, 62, 63, 64, 65, 66, 67, 68, 69, 70, 71, 72, 73, 74, 75, 76, 77, 78, 6]) (u := u) (k := 56) (i := 4) (by rw [hN]; decide) rfl f56
            have fg : u 2 = .bool false := hf 2 (by decide)
            have ef : ∀ f, (frm A [52, 53, 54, 55, 56, 57, 58, 59, 60, 61, 62, 63, 64, 65, 66, 67, 68, 69, 70, 71, 72, 73, 74, 75, 76, 77, 78, 6] u).eval (.func f) = .func (.func f) #[] #[] := fun _ => rfl
            generalize (frm A [52, 53, 54, 55, 56, 57, 58, 59, 60, 61, 62, 63, 64, 65, 66, 67, 68, 69, 70, 71, 72, 73, 74, 75, 76, 77, 78, 6] u).eval = ev at *
            exact k_call _ _ ⟨_, fg, rfl⟩ rfl (by simp [go_sem, ef, e55, e56]) (wCmpN n2 n3 (hp)) (fun w' hb => nxt hG hb) (fun _ _ => rfl)
          · intro u W hG hf
            have f57 : u 5 = .int .i64 (p) := hf 5 (by decide)
            have e57 := frm_head (ds := [52, 53, 54, 55, 56, 57, 58, 59, 60, 61, 62, 63, 64, 65, 66, 67, 68, 69, 70, 71, 72, 73, 74, 75, 76, 77, 78, 6]) (u := u) (k := 57) (i := 5) (by rw [hN]; decide) rfl f57
            have fg : u 2 = .bool false := hf 2 (by decide)
            have ec : ∀ v, (frm A [52, 53, 54, 55, 56, 57, 58, 59, 60, 61, 62, 63, 64, 65, 66, 67, 68, 69, 70, 71, 72, 73, 74, 75, 76, 77, 78, 6] u).eval (.const v) = v := fun _ => rfl
            generalize (frm A [52, 53, 54, 55, 56, 57, 58, 59, 60, 61, 62, 63, 64, 65, 66, 67, 68, 69, 70, 71, 72, 73, 74, 75, 76, 77, 78, 6] u).eval = ev at *
            refine k_val (.bool true) ⟨_, fg, rfl⟩ rfl hG ?_ rfl
            simp [go_sem, ec, e57, hP]
          · intro u W hG hf
            have f54 : u 2 = .bool false := hf 2 (by decide)
            have e54 := frm_head (ds := [52, 53, 54, 55, 56, 57, 58, 59, 60, 61, 62, 63, 64, 65, 66, 67, 68, 69, 70, 71, 72, 73, 74, 75, 76, 77, 78, 6]) (u := u) (k := 54) (i := 2) (by rw [hN]; decide) rfl f54
            have f58 : u 6 = .bool true := hf 6 (by decide)
            have e58 := frm_head (ds := [52, 53, 54, 55, 56, 57, 58, 59, 60, 61, 62, 63, 64, 65, 66, 67, 68, 69, 70, 71, 72, 73, 74, 75, 76, 77, 78, 6]) (u := u) (k := 58) (i := 6) (by rw [hN]; decide) rfl f58
            generalize (frm A [52, 53, 54, 55, 56, 57, 58, 59, 60, 61, 62, 63, 64, 65, 66, 67, 68, 69, 70, 71, 72, 73, 74, 75, 76, 77, 78, 6] u).eval = ev at *
            refine k_val (.bool true) rfl rfl hG ?_ rfl
            simp [go_sem, e54, e58]
          · intro u W hG hf
            have f59 : u 7 = .bool true := hf 7 (by decide)
            have e59 := frm_head (ds := [52, 53, 54, 55, 56, 57, 58, 59, 60, 61, 62, 63, 64, 65, 66, 67, 68, 69, 70, 71, 72, 73, 74, 75, 76, 77, 78, 6]) (u := u) (k := 59) (i := 7) (by rw [hN]; decide) rfl f59
            generalize (frm A [52, 53, 54, 55, 56, 57, 58, 59, 60, 61, 62, 63, 64, 65, 66, 67, 68, 69, 70, 71, 72, 73, 74, 75, 76, 77, 78, 6] u).eval = ev at *
            refine k_val (.bool true) rfl rfl hG ?_ rfl
            simp [go_sem, e59]
          · intro u W hG hf
            have fg : u 8 = .bool true := hf 8 (by decide)
            exact k_skip ⟨_, fg, rfl⟩ rfl rfl
          · intro u W hG hf
            have fg : u 8 = .bool true := hf 8 (by decide)
            exact k_skip ⟨_, fg, rfl⟩ rfl rfl
          · intro u W hG hf
            have fg : u 8 = .bool true := hf 8 (by decide)
            exact k_skip ⟨_, fg, rfl⟩ rfl rfl
          · intro u W hG hf
            have fg : u 8 = .bool true := hf 8 (by decide)
            exact k_skip ⟨_, fg, rfl⟩ rfl rfl
          · intro u W hG hf
            have f60 : u 8 = .bool true := hf 8 (by decide)
            have e60 := frm_head (ds := [52, 53, 54, 55, 56, 57, 58, 59, 60, 61, 62, 63, 64, 65, 66, 67, 68, 69, 70, 71, 72, 73, 74, 75, 76, 77, 78, 6]) (u := u) (k := 60) (i := 8) (by rw [hN]; decide) rfl f60
            have ec : ∀ v, (frm A [52, 53, 54, 55, 56, 57, 58, 59, 60, 61, 62, 63, 64, 65, 66, 67, 68, 69, 70, 71, 72, 73, 74, 75, 76, 77, 78, 6] u).eval (.const v) = v := fun _ => rfl
            generalize (frm A [52, 53, 54, 55, 56, 57, 58, 59, 60, 61, 62, 63, 64, 65, 66, 67, 68, 69, 70, 71, 72, 73, 74, 75, 76, 77, 78, 6] u).eval = ev at *
            refine k_val (.bool true) rfl rfl hG ?_ rfl
            simp [go_sem, ec, e60]
          · intro u W hG hf
            have f65 : u 13 = .bool true := hf 13 (by decide)
            have e65 := frm_head (ds := [52, 53, 54, 55, 56, 57, 58, 59, 60, 61, 62, 63, 64, 65, 66, 67, 68, 69, 70, 71, 72, 73, 74, 75, 76, 77, 78, 6]) (u := u) (k := 65) (i := 13) (by rw [hN]; decide) rfl f65
            generalize (frm A [52, 53, 54, 55, 56, 57, 58, 59, 60, 61, 62, 63, 64, 65, 66, 67, 68, 69, 70, 71, 72, 73, 74, 75, 76, 77, 78, 6] u).eval = ev at *
            refine k_val (.bool true) rfl rfl hG ?_ rfl
            simp [go_sem, e65]
          · intro u W hG hf
            have e7 := frm_base (ds := [52, 53, 54, 55, 56, 57, 58, 59, 60, 61, 62, 63, 64, 65, 66, 67, 68, 69, 70, 71, 72, 73, 74, 75, 76, 77, 78, 6]) (u := u) (k := 7) (by rw [hN]; decide) rfl q7
            have fg : u 14 = .bool true := hf 14 (by decide)
            generalize (frm A [52, 53, 54, 55, 56, 57, 58, 59, 60, 61, 62, 63, 64, 65, 66, 67, 68, 69, 70, 71, 72, 73, 74, 75, 76, 77, 78, 6] u).eval = ev at *
            refine k_val (.int .i64 (o)) ⟨_, fg, rfl⟩ rfl hG ?_ rfl
            simp [go_sem, e7]
          · intro u W hG hf
            have f67 : u 15 = .int .i64 (o) := hf 15 (by decide)
            have e67 := frm_head (ds := [52, 53, 54, 55, 56, 57, 58, 59, 60, 61, 62, 63, 64, 65, 66, 67, 68, 69, 70, 71, 72, 73, 74, 75, 76, 77, 78, 6]) (u := u) (k := 67) (i := 15) (by rw [hN]; decide) rfl f67
            have fg : u 14 = .bool true := hf 14 (by decide)
            have ec : ∀ v, (frm A [52, 53, 54, 55, 56, 57, 58, 59, 60, 61, 62, 63, 64, 65, 66, 67, 68, 69, 70, 71, 72, 73, 74, 75, 76, 77, 78, 6] u).eval (.const v) = v := fun _ => rfl
            generalize (frm A [52, 53, 54, 55, 56, 57, 58, 59, 60, 61, 62, 63, 64, 65, 66, 67, 68, 69, 70, 71, 72, 73, 74, 75, 76, 77, 78, 6] u).eval = ev at *
            refine k_val (.bool false) ⟨_, fg, rfl⟩ rfl hG ?_ rfl
            simp [go_sem, ec, e67, hz]
          · intro u W hG hf
            have e3 := frm_base (ds := [52, 53, 54, 55, 56, 57, 58, 59, 60, 61, 62, 63, 64, 65, 66, 67, 68, 69, 70, 71, 72, 73, 74, 75, 76, 77, 78, 6]) (u := u) (k := 3) (by rw [hN]; decide) rfl q3
            have fg : u 14 = .bool true := hf 14 (by decide)
            generalize (frm A [52, 53, 54, 55, 56, 57, 58, 59, 60, 61, 62, 63, 64, 65, 66, 67, 68, 69, 70, 71, 72, 73, 74, 75, 76, 77, 78, 6] u).eval = ev at *
            have hx := X1.later hG
            have y0 := hx.cel 0
            have y1 := hx.cel 1
            simp at y0 y1
            refine k_val (.agg #[.bool a1, .string s1]) ⟨_, fg, rfl⟩ rfl hG ?_ rfl
            simp [go_sem, e3, y0, y1]
          · intro u W hG hf
            have f69 : u 17 = .agg #[.bool a1, .string s1] := hf 17 (by decide)
            have e69 := frm_head (ds := [52, 53, 54, 55, 56, 57, 58, 59, 60, 61, 62, 63, 64, 65, 66, 67, 68, 69, 70, 71, 72, 73, 74, 75, 76, 77, 78, 6]) (u := u) (k := 69) (i := 17) (by rw [hN]; decide) rfl f69
            have fg : u 14 = .bool true := hf 14 (by decide)
            have ef : ∀ f, (frm A [52, 53, 54, 55, 56, 57, 58, 59, 60, 61, 62, 63, 64, 65, 66, 67, 68, 69, 70, 71, 72, 73, 74, 75, 76, 77, 78, 6] u).eval (.func f) = .func (.func f) #[] #[] := fun _ => rfl
            generalize (frm A [52, 53, 54, 55, 56, 57, 58, 59, 60, 61, 62, 63, 64, 65, 66, 67, 68, 69, 70, 71, 72, 73, 74, 75, 76, 77, 78, 6] u).eval = ev at *
            exact k_call _ _ ⟨_, fg, rfl⟩ rfl (by simp [go_sem, ef, e69]) (wFormN2 n1 (rfl)) (fun w' hb => nxt hG hb) (fun _ _ => rfl)
          · intro u W hG hf
            have e4 := frm_base (ds := [52, 53, 54, 55, 56, 57, 58, 59, 60, 61, 62, 63, 64, 65, 66, 67, 68, 69, 70, 71, 72, 73, 74, 75, 76, 77, 78, 6]) (u := u) (k := 4) (by rw [hN]; decide) rfl q4
            have fg : u 14 = .bool true := hf 14 (by decide)
            generalize (frm A [52, 53, 54, 55, 56, 57, 58, 59, 60, 61, 62, 63, 64, 65, 66, 67, 68, 69, 70, 71, 72, 73, 74, 75, 76, 77, 78, 6] u).eval = ev at *
            have hx := X2.later hG
            have y0 := hx.cel 0
            have y1 := hx.cel 1
            simp at y0 y1
            refine k_val (.agg #[.bool a2, .string s2]) ⟨_, fg, rfl⟩ rfl hG ?_ rfl
            simp [go_sem, e4, y0, y1]
          · intro u W hG hf
            have f71 : u 19 = .agg #[.bool a2, .string s2] := hf 19 (by decide)
            have e71 := frm_head (ds := [52, 53, 54, 55, 56, 57, 58, 59, 60, 61, 62, 63, 64, 65, 66, 67, 68, 69, 70, 71, 72, 73, 74, 75, 76, 77, 78, 6]) (u := u) (k := 71) (i := 19) (by rw [hN]; decide) rfl f71
            have fg : u 14 = .bool true := hf 14 (by decide)
            have ef : ∀ f, (frm A [52, 53, 54, 55, 56, 57, 58, 59, 60, 61, 62, 63, 64, 65, 66, 67, 68, 69, 70, 71, 72, 73, 74, 75, 76, 77, 78, 6] u).eval (.func f) = .func (.func f) #[] #[] := fun _ => rfl
            generalize (frm A [52, 53, 54, 55, 56, 57, 58, 59, 60, 61, 62, 63, 64, 65, 66, 67, 68, 69, 70, 71, 72, 73, 74, 75, 76, 77, 78, 6] u).eval = ev at *
            exact k_call _ _ ⟨_, fg, rfl⟩ rfl (by simp [go_sem, ef, e71]) (wFormN2 n2 (rfl)) (fun w' hb => nxt hG hb) (fun _ _ => rfl)
          · intro u W hG hf
            have f70 : u 18 = .agg #[.bool (neg (x)), .string (mag (x))] := hf 18 (by decide)
            have e70 := frm_head (ds := [52, 53, 54, 55, 56, 57, 58, 59, 60, 61, 62, 63, 64, 65, 66, 67, 68, 69, 70, 71, 72, 73, 74, 75, 76, 77, 78, 6]) (u := u) (k := 70) (i := 18) (by rw [hN]; decide) rfl f70
            have f72 : u 20 = .agg #[.bool (neg (y)), .string (mag (y))] := hf 20 (by decide)
            have e72 := frm_head (ds := [52, 53, 54, 55, 56, 57, 58, 59, 60, 61, 62, 63, 64, 65, 66, 67, 68, 69, 70, 71, 72, 73, 74, 75, 76, 77, 78, 6]) (u := u) (k := 72) (i := 20) (by rw [hN]; decide) rfl f72
            have fg : u 14 = .bool true := hf 14 (by decide)
            generalize (frm A [52, 53, 54, 55, 56, 57, 58, 59, 60, 61, 62, 63, 64, 65, 66, 67, 68, 69, 70, 71, 72, 73, 74, 75, 76, 77, 78, 6] u).eval = ev at *
            refine k_val (.bool false) ⟨_, fg, rfl⟩ rfl hG ?_ rfl
            simp [go_sem, e70, e72]
            exact mk_ne hxy
          · intro u W hG hf
            have f68 : u 16 = .bool false := hf 16 (by decide)
            have e68 := frm_head (ds := [52, 53, 54, 55, 56, 57, 58, 59, 60, 61, 62, 63, 64, 65, 66, 67, 68, 69, 70, 71, 72, 73, 74, 75, 76, 77, 78, 6]) (u := u) (k := 68) (i := 16) (by rw [hN]; decide) rfl f68
            have f73 : u 21 = .bool false := hf 21 (by decide)
            have e73 := frm_head (ds := [52, 53, 54, 55, 56, 57, 58, 59, 60, 61, 62, 63, 64, 65, 66, 67, 68, 69, 70, 71, 72, 73, 74, 75, 76, 77, 78, 6]) (u := u) (k := 73) (i := 21) (by rw [hN]; decide) rfl f73
            have fg : u 14 = .bool true := hf 14 (by decide)
            generalize (frm A [52, 53, 54, 55, 56, 57, 58, 59, 60, 61, 62, 63, 64, 65, 66, 67, 68, 69, 70, 71, 72, 73, 74, 75, 76, 77, 78, 6] u).eval = ev at *
            refine k_val (.bool true) ⟨_, fg, rfl⟩ rfl hG ?_ rfl
            simp [go_sem, e68, e73]
          · intro u W hG hf
            have f66 : u 14 = .bool true := hf 14 (by decide)
            have e66 := frm_head (ds := [52, 53, 54, 55, 56, 57, 58, 59, 60, 61, 62, 63, 64, 65, 66, 67, 68, 69, 70, 71, 72, 73, 74, 75, 76, 77, 78, 6]) (u := u) (k := 66) (i := 14) (by rw [hN]; decide) rfl f66
            have f74 : u 22 = .bool true := hf 22 (by decide)
            have e74 := frm_head (ds := [52, 53, 54, 55, 56, 57, 58, 59, 60, 61, 62, 63, 64, 65, 66, 67, 68, 69, 70, 71, 72, 73, 74, 75, 76, 77, 78, 6]) (u := u) (k := 74) (i := 22) (by rw [hN]; decide) rfl f74
            generalize (frm A [52, 53, 54, 55, 56, 57, 58, 59, 60, 61, 62, 63, 64, 65, 66, 67, 68, 69, 70, 71, 72, 73, 74, 75, 76, 77, 78, 6] u).eval = ev at *
            refine k_val (.bool true) rfl rfl hG ?_ rfl
            simp [go_sem, e66, e74]
          · intro u W hG hf
            have f75 : u 23 = .bool true := hf 23 (by decide)
            have e75 := frm_head (ds := [52, 53, 54, 55, 56, 57, 58, 59, 60, 61, 62, 63, 64, 65, 66, 67, 68, 69, 70, 71, 72, 73, 74, 75, 76, 77, 78, 6]) (u := u) (k := 75) (i := 23) (by rw [hN]; decide) rfl f75
            generalize (frm A [52, 53, 54, 55, 56, 57, 58, 59, 60, 61, 62, 63, 64, 65, 66, 67, 68, 69, 70, 71, 72, 73, 74, 75, 76, 77, 78, 6] u).eval = ev at *
            refine k_val (.bool true) rfl rfl hG ?_ rfl
            simp [go_sem, e75]
          · intro u W hG hf
            have fg : u 24 = .bool true := hf 24 (by decide)
            have ef : ∀ f, (frm A [52, 53, 54, 55, 56, 57, 58, 59, 60, 61, 62, 63, 64, 65, 66, 67, 68, 69, 70, 71, 72, 73, 74, 75, 76, 77, 78, 6] u).eval (.func f) = .func (.func f) #[] #[] := fun _ => rfl
            generalize (frm A [52, 53, 54, 55, 56, 57, 58, 59, 60, 61, 62, 63, 64, 65, 66, 67, 68, 69, 70, 71, 72, 73, 74, 75, 76, 77, 78, 6] u).eval = ev at *
            exact k_call _ _ ⟨_, fg, rfl⟩ rfl (by simp [go_sem, ef]) (HA.out W (nxt hB hG)) (fun w' hb => nxt hG hb) (fun _ _ => rfl)
          · intro u W hG hf
            have f76 : u 24 = .bool true := hf 24 (by decide)
            have e76 := frm_head (ds := [52, 53, 54, 55, 56, 57, 58, 59, 60, 61, 62, 63, 64, 65, 66, 67, 68, 69, 70, 71, 72, 73, 74, 75, 76, 77, 78, 6]) (u := u) (k := 76) (i := 24) (by rw [hN]; decide) rfl f76
            have f77 : u 25 = .bool true := hf 25 (by decide)
            have e77 := frm_head (ds := [52, 53, 54, 55, 56, 57, 58, 59, 60, 61, 62, 63, 64, 65, 66, 67, 68, 69, 70, 71, 72, 73, 74, 75, 76, 77, 78, 6]) (u := u) (k := 77) (i := 25) (by rw [hN]; decide) rfl f77
            generalize (frm A [52, 53, 54, 55, 56, 57, 58, 59, 60, 61, 62, 63, 64, 65, 66, 67, 68, 69, 70, 71, 72, 73, 74, 75, 76, 77, 78, 6] u).eval = ev at *
            refine k_val (.bool true) rfl rfl hG ?_ rfl
            simp [go_sem, e76, e77]
          · intro u W hG hf
            have f78 : u 26 = .bool true := hf 26 (by decide)
            have e78 := frm_head (ds := [52, 53, 54, 55, 56, 57, 58, 59, 60, 61, 62, 63, 64, 65, 66, 67, 68, 69, 70, 71, 72, 73, 74, 75, 76, 77, 78, 6]) (u := u) (k := 78) (i := 26) (by rw [hN]; decide) rfl f78
            generalize (frm A [52, 53, 54, 55, 56, 57, 58, 59, 60, 61, 62, 63, 64, 65, 66, 67, 68, 69, 70, 71, 72, 73, 74, 75, 76, 77, 78, 6] u).eval = ev at *
            refine k_val (.bool true) rfl rfl hG ?_ rfl
            simp [go_sem, e78]
        case hlate =>
          intro A _
          exact ⟨trivial, trivial, trivial, trivial, trivial, trivial, trivial, trivial, trivial, trivial, trivial, trivial, trivial, trivial, trivial, trivial, trivial, trivial, trivial, trivial, trivial, trivial, trivial, trivial, trivial, trivial, trivial, trivial, trivial⟩
        case htail =>
          intro u w4 hG hP' _
          have f6 : u 27 = .bool true := hP' 27 (by decide)
          simp only [putAll, Act.put, List.setIfInBounds_toArray, List.set_cons_zero, List.set_cons_succ, List.length_cons, List.length_nil, Nat.reduceAdd, List.drop_succ_cons, List.drop_zero, f6]
          go_wp2
          go_ret
          exact ⟨rfl, nxt hB hG⟩
      · replace hP := Int.not_lt.1 hP
        have hQ : q ≤ 0 := by
          rw [← hq]
          rw [← hp] at hP
          rw [← ho] at hO
          have h1 := sgn_le hP
          have h3 := sgn_le hO
          refine Int.not_lt.1 fun h2 => ?_
          have := sgn_gt.1 h2
          omega
        refine wp_region_know [52, 53, 54, 55, 56, 57, 58, 59, 60, 61, 62, 63, 64, 65, 66, 67, 68, 69, 70, 71, 72, 73, 74, 75, 76, 77, 78, 6] (fun W => Below w3.heap.size w3 W) (kAt [eqK (.int .i64 (o)), eqK (.bool false), eqK (.bool false), eqK (.agg #[.bool a2, .string s2]), eqK (.agg #[.bool a3, .string s3]), eqK (.int .i64 (p)), eqK (.bool false), eqK (.bool false), eqK (.bool false), eqK (.agg #[.bool a1, .string s1]), eqK (.agg #[.bool a3, .string s3]), eqK (.int .i64 (q)), eqK (.bool true), eqK (.bool true), eqK (.bool true), eqK (.int .i64 (o)), eqK (.bool false), eqK (.agg #[.bool a1, .string s1]), eqK (.agg #[.bool (neg (x)), .string (mag (x))]), eqK (.agg #[.bool a2, .string s2]), eqK (.agg #[.bool (neg (y)), .string (mag (y))]), eqK (.bool false), eqK (.bool true), eqK (.bool true), eqK (.bool true), eqK (.bool true), eqK (.bool true), eqK (.bool true)])
          (fun _ => true) (fun _ => false) (by kernel_rfl) (by kernel_rfl) (fun _ _ _ _ _ h => h) (by kernel_rfl) (by kernel_rfl) 79 rfl (by kernel_rfl) (by kernel_rfl) ?hG (fun i v w w' hi => kAt_stab (by exact ⟨stab_eq _, stab_eq _, stab_eq _, stab_eq _, stab_eq _, stab_eq _, stab_eq _, stab_eq _, stab_eq _, stab_eq _, stab_eq _, stab_eq _, stab_eq _, stab_eq _, stab_eq _, stab_eq _, stab_eq _, stab_eq _, stab_eq _, stab_eq _, stab_eq _, stab_eq _, stab_eq _, stab_eq _, stab_eq _, stab_eq _, stab_eq _, stab_eq _, trivial⟩) _ i v w w' hi) (fun _ _ _ _ hf _ => absurd hf Bool.false_ne_true) ?hop ?hlate ?htail
        case hG => exact (Below.refl _ _).drew
        case hop =>
          intro A hA
          have hN : A.tmps.size = 79 := by rw [hA]; rfl
          have q3 : A.tmps.getD 3 undef = .pointer (some ⟨w.heap.size, 0, none⟩) := by rw [hA]; rfl
          have q4 : A.tmps.getD 4 undef = .pointer (some ⟨w.heap.size + 1, 0, none⟩) := by rw [hA]; rfl
          have q5 : A.tmps.getD 5 undef = .pointer (some ⟨w.heap.size + 2, 0, none⟩) := by rw [hA]; rfl
          have q7 : A.tmps.getD 7 undef = .int .i64 (o) := by rw [hA]; rfl
          clear hA
          refine ⟨?_, ?_, ?_, ?_, ?_, ?_, ?_, ?_, ?_, ?_, ?_, ?_, ?_, ?_, ?_, ?_, ?_, ?_, ?_, ?_, ?_, ?_, ?_, ?_, ?_, ?_, ?_, ?_, trivial⟩
          · intro u W hG hf
            have e7 := frm_base (ds := [52, 53, 54, 55, 56, 57, 58, 59, 60, 61, 62, 63, 64, 65, 66, 67, 68, 69, 70, 71, 72, 73, 74, 75, 76, 77, 78, 6]) (u := u) (k := 7) (by rw [hN]; decide) rfl q7
            generalize (frm A [52, 53, 54, 55, 56, 57, 58, 59, 60, 61, 62, 63, 64, 65, 66, 67, 68, 69, 70, 71, 72, 73, 74, 75, 76, 77, 78, 6] u).eval = ev at *
            refine k_val (.int .i64 (o)) rfl rfl hG ?_ rfl
            simp [go_sem, e7]
          · intro u W hG hf
            have f52 : u 0 = .int .i64 (o) := hf 0 (by decide)
            have e52 := frm_head (ds := [52, 53, 54, 55, 56, 57, 58, 59, 60, 61, 62, 63, 64, 65, 66, 67, 68, 69, 70, 71, 72, 73, 74, 75, 76, 77, 78, 6]) (u := u) (k := 52) (i := 0) (by rw [hN]; decide) rfl f52
            have ec : ∀ v, (frm A [52, 53, 54, 55, 56, 57, 58, 59, 60, 61, 62, 63, 64, 65, 66, 67, 68, 69, 70, 71, 72, 73, 74, 75, 76, 77, 78, 6] u).eval (.const v) = v := fun _ => rfl
            generalize (frm A [52, 53, 54, 55, 56, 57, 58, 59, 60, 61, 62, 63, 64, 65, 66, 67, 68, 69, 70, 71, 72, 73, 74, 75, 76, 77, 78, 6] u).eval = ev at *
            refine k_val (.bool false) rfl rfl hG ?_ rfl
            simp [go_sem, ec, e52, hO]
          · intro u W hG hf
            have f53 : u 1 = .bool false := hf 1 (by decide)
            have e53 := frm_head (ds := [52, 53, 54, 55, 56, 57, 58, 59, 60, 61, 62, 63, 64, 65, 66, 67, 68, 69, 70, 71, 72, 73, 74, 75, 76, 77, 78, 6]) (u := u) (k := 53) (i := 1) (by rw [hN]; decide) rfl f53
            generalize (frm A [52, 53, 54, 55, 56, 57, 58, 59, 60, 61, 62, 63, 64, 65, 66, 67, 68, 69, 70, 71, 72, 73, 74, 75, 76, 77, 78, 6] u).eval = ev at *
            refine k_val (.bool false) rfl rfl hG ?_ rfl
            simp [go_sem, e53]
          · intro u W hG hf
            have e4 := frm_base (ds := [52, 53, 54, 55, 56, 57, 58, 59, 60, 61, 62, 63, 64, 65, 66, 67, 68, 69, 70, 71, 72, 73, 74, 75, 76, 77, 78, 6]) (u := u) (k := 4) (by rw [hN]; decide) rfl q4
            have fg : u 2 = .bool false := hf 2 (by decide)
            generalize (frm A [52, 53, 54, 55, 56, 57, 58, 59, 60, 61, 62, 63, 64, 65, 66, 67, 68, 69, 70, 71, 72, 73, 74, 75, 76, 77, 78, 6] u).eval = ev at *
            have hx := X2.later hG
            have y0 := hx.cel 0
            have y1 := hx.cel 1
            simp at y0 y1
            refine k_val (.agg #[.bool a2, .string s2]) ⟨_, fg, rfl⟩ rfl hG ?_ rfl
            simp [go_sem, e4, y0, y1]
          · intro u W hG hf
            have e5 := frm_base (ds := [52, 53, 54, 55, 56, 57, 58, 59, 60, 61, 62, 63, 64, 65, 66, 67, 68, 69, 70, 71, 72, 73, 74, 75, 76, 77, 78, 6]) (u := u) (k := 5) (by rw [hN]; decide) rfl q5
            have fg : u 2 = .bool false := hf 2 (by decide)
            generalize (frm A [52, 53, 54, 55, 56, 57, 58, 59, 60, 61, 62, 63, 64, 65, 66, 67, 68, 69, 70, 71, 72, 73, 74, 75, 76, 77, 78, 6] u).eval = ev at *
            have hx := X3.later hG
            have y0 := hx.cel 0
            have y1 := hx.cel 1
            simp at y0 y1
            refine k_val (.agg #[.bool a3, .string s3]) ⟨_, fg, rfl⟩ rfl hG ?_ rfl
            simp [go_sem, e5, y0, y1]
          · intro u W hG hf
            have f55 : u 3 = .agg #[.bool a2, .string s2] := hf 3 (by decide)
            have e55 := frm_head (ds := [52, 53, 54, 55, 56, 57, 58, 59, 60, 61, 62, 63, 64, 65, 66, 67, 68, 69, 70, 71, 72, 73, 74, 75, 76, 77, 78, 6]) (u := u) (k := 55) (i := 3) (by rw [hN]; decide) rfl f55
            have f56 : u 4 = .agg #[.bool a3, .string s3] := hf 4 (by decide)
            have e56 := frm_head (ds := [52, 53, 54, 55, 56, 57, 58, 59, 60, 61, 62, 63, 64, 65, 66, 67, 68, 69, 70, 71, 72, 73, 74, 75, 76, 77, 78, 6]) (u := u) (k := 56) (i := 4) (by rw [hN]; decide) rfl f56
            have fg : u 2 = .bool false := hf 2 (by decide)
            have ef : ∀ f, (frm A [52, 53, 54, 55, 56, 57, 58, 59, 60, 61, 62, 63, 64, 65, 66, 67, 68, 69, 70, 71, 72, 73, 74, 75, 76, 77, 78, 6] u).eval (.func f) = .func (.func f) #[] #[] := fun _ => rfl
            generalize (frm A [52, 53, 54, 55, 56, 57, 58, 59, 60, 61, 62, 63, 64, 65, 66, 67, 68, 69, 70, 71, 72, 73, 74, 75, 76, 77, 78, 6] u).eval = ev at *
            exact k_call _ _ ⟨_, fg, rfl⟩ rfl (by simp [go_sem, ef, e55, e56]) (wCmpN n2 n3 (hp)) (fun w' hb => nxt hG hb) (fun _ _ => rfl)
          · intro u W hG hf
            have f57 : u 5 = .int .i64 (p) := hf 5 (by decide)
            have e57 := frm_head (ds := [52, 53, 54, 55, 56, 57, 58, 59, 60, 61, 62, 63, 64, 65, 66, 67, 68, 69, 70, 71, 72, 73, 74, 75, 76, 77, 78, 6]) (u := u) (k := 57) (i := 5) (by rw [hN]; decide) rfl f57
            have fg : u 2 = .bool false := hf 2 (by decide)
            have ec : ∀ v, (frm A [52, 53, 54, 55, 56, 57, 58, 59, 60, 61, 62, 63, 64, 65, 66, 67, 68, 69, 70, 71, 72, 73, 74, 75, 76, 77, 78, 6] u).eval (.const v) = v := fun _ => rfl
            generalize (frm A [52, 53, 54, 55, 56, 57, 58, 59, 60, 61, 62, 63, 64, 65, 66, 67, 68, 69, 70, 71, 72, 73, 74, 75, 76, 77, 78, 6] u).eval = ev at *
            refine k_val (.bool false) ⟨_, fg, rfl⟩ rfl hG ?_ rfl
            simp [go_sem, ec, e57, hP]
          · intro u W hG hf
            have f54 : u 2 = .bool false := hf 2 (by decide)
            have e54 := frm_head (ds := [52, 53, 54, 55, 56, 57, 58, 59, 60, 61, 62, 63, 64, 65, 66, 67, 68, 69, 70, 71, 72, 73, 74, 75, 76, 77, 78, 6]) (u := u) (k := 54) (i := 2) (by rw [hN]; decide) rfl f54
            have f58 : u 6 = .bool false := hf 6 (by decide)
            have e58 := frm_head (ds := [52, 53, 54, 55, 56, 57, 58, 59, 60, 61, 62, 63, 64, 65, 66, 67, 68, 69, 70, 71, 72, 73, 74, 75, 76, 77, 78, 6]) (u := u) (k := 58) (i := 6) (by rw [hN]; decide) rfl f58
            generalize (frm A [52, 53, 54, 55, 56, 57, 58, 59, 60, 61, 62, 63, 64, 65, 66, 67, 68, 69, 70, 71, 72, 73, 74, 75, 76, 77, 78, 6] u).eval = ev at *
            refine k_val (.bool false) rfl rfl hG ?_ rfl
            simp [go_sem, e54, e58]
          · intro u W hG hf
            have f59 : u 7 = .bool false := hf 7 (by decide)
            have e59 := frm_head (ds := [52, 53, 54, 55, 56, 57, 58, 59, 60, 61, 62, 63, 64, 65, 66, 67, 68, 69, 70, 71, 72, 73, 74, 75, 76, 77, 78, 6]) (u := u) (k := 59) (i := 7) (by rw [hN]; decide) rfl f59
            generalize (frm A [52, 53, 54, 55, 56, 57, 58, 59, 60, 61, 62, 63, 64, 65, 66, 67, 68, 69, 70, 71, 72, 73, 74, 75, 76, 77, 78, 6] u).eval = ev at *
            refine k_val (.bool false) rfl rfl hG ?_ rfl
            simp [go_sem, e59]
          · intro u W hG hf
            have e3 := frm_base (ds := [52, 53, 54, 55, 56, 57, 58, 59, 60, 61, 62, 63, 64, 65, 66, 67, 68, 69, 70, 71, 72, 73, 74, 75, 76, 77, 78, 6]) (u := u) (k := 3) (by rw [hN]; decide) rfl q3
            have fg : u 8 = .bool false := hf 8 (by decide)
            generalize (frm A [52, 53, 54, 55, 56, 57, 58, 59, 60, 61, 62, 63, 64, 65, 66, 67, 68, 69, 70, 71, 72, 73, 74, 75, 76, 77, 78, 6] u).eval = ev at *
            have hx := X1.later hG
            have y0 := hx.cel 0
            have y1 := hx.cel 1
            simp at y0 y1
            refine k_val (.agg #[.bool a1, .string s1]) ⟨_, fg, rfl⟩ rfl hG ?_ rfl
            simp [go_sem, e3, y0, y1]
          · intro u W hG hf
            have e5 := frm_base (ds := [52, 53, 54, 55, 56, 57, 58, 59, 60, 61, 62, 63, 64, 65, 66, 67, 68, 69, 70, 71, 72, 73, 74, 75, 76, 77, 78, 6]) (u := u) (k := 5) (by rw [hN]; decide) rfl q5
            have fg : u 8 = .bool false := hf 8 (by decide)
            generalize (frm A [52, 53, 54, 55, 56, 57, 58, 59, 60, 61, 62, 63, 64, 65, 66, 67, 68, 69, 70, 71, 72, 73, 74, 75, 76, 77, 78, 6] u).eval = ev at *
            have hx := X3.later hG
            have y0 := hx.cel 0
            have y1 := hx.cel 1
            simp at y0 y1
            refine k_val (.agg #[.bool a3, .string s3]) ⟨_, fg, rfl⟩ rfl hG ?_ rfl
            simp [go_sem, e5, y0, y1]
          · intro u W hG hf
            have f61 : u 9 = .agg #[.bool a1, .string s1] := hf 9 (by decide)
            have e61 := frm_head (ds := [52, 53, 54, 55, 56, 57, 58, 59, 60, 61, 62, 63, 64, 65, 66, 67, 68, 69, 70, 71, 72, 73, 74, 75, 76, 77, 78, 6]) (u := u) (k := 61) (i := 9) (by rw [hN]; decide) rfl f61
            have f62 : u 10 = .agg #[.bool a3, .string s3] := hf 10 (by decide)
            have e62 := frm_head (ds := [52, 53, 54, 55, 56, 57, 58, 59, 60, 61, 62, 63, 64, 65, 66, 67, 68, 69, 70, 71, 72, 73, 74, 75, 76, 77, 78, 6]) (u := u) (k := 62) (i := 10) (by rw [hN]; decide) rfl f62
            have fg : u 8 = .bool false := hf 8 (by decide)
            have ef : ∀ f, (frm A [52, 53, 54, 55, 56, 57, 58, 59, 60, 61, 62, 63, 64, 65, 66, 67, 68, 69, 70, 71, 72, 73, 74, 75, 76, 77, 78, 6] u).eval (.func f) = .func (.func f) #[] #[] := fun _ => rfl
            generalize (frm A [52, 53, 54, 55, 56, 57, 58, 59, 60, 61, 62, 63, 64, 65, 66, 67, 68, 69, 70, 71, 72, 73, 74, 75, 76, 77, 78, 6] u).eval = ev at *
            exact k_call _ _ ⟨_, fg, rfl⟩ rfl (by simp [go_sem, ef, e61, e62]) (wCmpN n1 n3 (hq)) (fun w' hb => nxt hG hb) (fun _ _ => rfl)
          · intro u W hG hf
            have f63 : u 11 = .int .i64 (q) := hf 11 (by decide)
            have e63 := frm_head (ds := [52, 53, 54, 55, 56, 57, 58, 59, 60, 61, 62, 63, 64, 65, 66, 67, 68, 69, 70, 71, 72, 73, 74, 75, 76, 77, 78, 6]) (u := u) (k := 63) (i := 11) (by rw [hN]; decide) rfl f63
            have fg : u 8 = .bool false := hf 8 (by decide)
            have ec : ∀ v, (frm A [52, 53, 54, 55, 56, 57, 58, 59, 60, 61, 62, 63, 64, 65, 66, 67, 68, 69, 70, 71, 72, 73, 74, 75, 76, 77, 78, 6] u).eval (.const v) = v := fun _ => rfl
            generalize (frm A [52, 53, 54, 55, 56, 57, 58, 59, 60, 61, 62, 63, 64, 65, 66, 67, 68, 69, 70, 71, 72, 73, 74, 75, 76, 77, 78, 6] u).eval = ev at *
            refine k_val (.bool true) ⟨_, fg, rfl⟩ rfl hG ?_ rfl
            simp [go_sem, ec, e63, hQ]
          · intro u W hG hf
            have f60 : u 8 = .bool false := hf 8 (by decide)
            have e60 := frm_head (ds := [52, 53, 54, 55, 56, 57, 58, 59, 60, 61, 62, 63, 64, 65, 66, 67, 68, 69, 70, 71, 72, 73, 74, 75, 76, 77, 78, 6]) (u := u) (k := 60) (i := 8) (by rw [hN]; decide) rfl f60
            have f64 : u 12 = .bool true := hf 12 (by decide)
            have e64 := frm_head (ds := [52, 53, 54, 55, 56, 57, 58, 59, 60, 61, 62, 63, 64, 65, 66, 67, 68, 69, 70, 71, 72, 73, 74, 75, 76, 77, 78, 6]) (u := u) (k := 64) (i := 12) (by rw [hN]; decide) rfl f64
            generalize (frm A [52, 53, 54, 55, 56, 57, 58, 59, 60, 61, 62, 63, 64, 65, 66, 67, 68, 69, 70, 71, 72, 73, 74, 75, 76, 77, 78, 6] u).eval = ev at *
            refine k_val (.bool true) rfl rfl hG ?_ rfl
            simp [go_sem, e60, e64]
          · intro u W hG hf
            have f65 : u 13 = .bool true := hf 13 (by decide)
            have e65 := frm_head (ds := [52, 53, 54, 55, 56, 57, 58, 59, 60, 61, 62, 63, 64, 65, 66, 67, 68, 69, 70, 71, 72, 73, 74, 75, 76, 77, 78, 6]) (u := u) (k := 65) (i := 13) (by rw [hN]; decide) rfl f65
            generalize (frm A [52, 53, 54, 55, 56, 57, 58, 59, 60, 61, 62, 63, 64, 65, 66, 67, 68, 69, 70, 71, 72, 73, 74, 75, 76, 77, 78, 6] u).eval = ev at *
            refine k_val (.bool true) rfl rfl hG ?_ rfl
            simp [go_sem, e65]
          · intro u W hG hf
            have e7 := frm_base (ds := [52, 53, 54, 55, 56, 57, 58, 59, 60, 61, 62, 63, 64, 65, 66, 67, 68, 69, 70, 71, 72, 73, 74, 75, 76, 77, 78, 6]) (u := u) (k := 7) (by rw [hN]; decide) rfl q7
            have fg : u 14 = .bool true := hf 14 (by decide)
            generalize (frm A [52, 53, 54, 55, 56, 57, 58, 59, 60, 61, 62, 63, 64, 65, 66, 67, 68, 69, 70, 71, 72, 73, 74, 75, 76, 77, 78, 6] u).eval = ev at *
            refine k_val (.int .i64 (o)) ⟨_, fg, rfl⟩ rfl hG ?_ rfl
            simp [go_sem, e7]
          · intro u W hG hf
            have f67 : u 15 = .int .i64 (o) := hf 15 (by decide)
            have e67 := frm_head (ds := [52, 53, 54, 55, 56, 57, 58, 59, 60, 61, 62, 63, 64, 65, 66, 67, 68, 69, 70, 71, 72, 73, 74, 75, 76, 77, 78, 6]) (u := u) (k := 67) (i := 15) (by rw [hN]; decide) rfl f67
            have fg : u 14 = .bool true := hf 14 (by decide)
            have ec : ∀ v, (frm A [52, 53, 54, 55, 56, 57, 58, 59, 60, 61, 62, 63, 64, 65, 66, 67, 68, 69, 70, 71, 72, 73, 74, 75, 76, 77, 78, 6] u).eval (.const v) = v := fun _ => rfl
            generalize (frm A [52, 53, 54, 55, 56, 57, 58, 59, 60, 61, 62, 63, 64, 65, 66, 67, 68, 69, 70, 71, 72, 73, 74, 75, 76, 77, 78, 6] u).eval = ev at *
            refine k_val (.bool false) ⟨_, fg, rfl⟩ rfl hG ?_ rfl
            simp [go_sem, ec, e67, hz]
          · intro u W hG hf
            have e3 := frm_base (ds := [52, 53, 54, 55, 56, 57, 58, 59, 60, 61, 62, 63, 64, 65, 66, 67, 68, 69, 70, 71, 72, 73, 74, 75, 76, 77, 78, 6]) (u := u) (k := 3) (by rw [hN]; decide) rfl q3
            have fg : u 14 = .bool true := hf 14 (by decide)
            generalize (frm A [52, 53, 54, 55, 56, 57, 58, 59, 60, 61, 62, 63, 64, 65, 66, 67, 68, 69, 70, 71, 72, 73, 74, 75, 76, 77, 78, 6] u).eval = ev at *
            have hx := X1.later hG
            have y0 := hx.cel 0
            have y1 := hx.cel 1
            simp at y0 y1
            refine k_val (.agg #[.bool a1, .string s1]) ⟨_, fg, rfl⟩ rfl hG ?_ rfl
            simp [go_sem, e3, y0, y1]
          · intro u W hG hf
            have f69 : u 17 = .agg #[.bool a1, .string s1] := hf 17 (by decide)
            have e69 := frm_head (ds := [52, 53, 54, 55, 56, 57, 58, 59, 60, 61, 62, 63, 64, 65, 66, 67, 68, 69, 70, 71, 72, 73, 74, 75, 76, 77, 78, 6]) (u := u) (k := 69) (i := 17) (by rw [hN]; decide) rfl f69
            have fg : u 14 = .bool true := hf 14 (by decide)
            have ef : ∀ f, (frm A [52, 53, 54, 55, 56, 57, 58, 59, 60, 61, 62, 63, 64, 65, 66, 67, 68, 69, 70, 71, 72, 73, 74, 75, 76, 77, 78, 6] u).eval (.func f) = .func (.func f) #[] #[] := fun _ => rfl
            generalize (frm A [52, 53, 54, 55, 56, 57, 58, 59, 60, 61, 62, 63, 64, 65, 66, 67, 68, 69, 70, 71, 72, 73, 74, 75, 76, 77, 78, 6] u).eval = ev at *
            exact k_call _ _ ⟨_, fg, rfl⟩ rfl (by simp [go_sem, ef, e69]) (wFormN2 n1 (rfl)) (fun w' hb => nxt hG hb) (fun _ _ => rfl)
          · intro u W hG hf
            have e4 := frm_base (ds := [52, 53, 54, 55, 56, 57, 58, 59, 60, 61, 62, 63, 64, 65, 66, 67, 68, 69, 70, 71, 72, 73, 74, 75, 76, 77, 78, 6]) (u := u) (k := 4) (by rw [hN]; decide) rfl q4
            have fg : u 14 = .bool true := hf 14 (by decide)
            generalize (frm A [52, 53, 54, 55, 56, 57, 58, 59, 60, 61, 62, 63, 64, 65, 66, 67, 68, 69, 70, 71, 72, 73, 74, 75, 76, 77, 78, 6] u).eval = ev at *
            have hx := X2.later hG
            have y0 := hx.cel 0
            have y1 := hx.cel 1
            simp at y0 y1
            refine k_val (.agg #[.bool a2, .string s2]) ⟨_, fg, rfl⟩ rfl hG ?_ rfl
            simp [go_sem, e4, y0, y1]
          · intro u W hG hf
            have f71 : u 19 = .agg #[.bool a2, .string s2] := hf 19 (by decide)
            have e71 := frm_head (ds := [52, 53, 54, 55, 56, 57, 58, 59, 60, 61, 62, 63, 64, 65, 66, 67, 68, 69, 70, 71, 72, 73, 74, 75, 76, 77, 78, 6]) (u := u) (k := 71) (i := 19) (by rw [hN]; decide) rfl f71
            have fg : u 14 = .bool true := hf 14 (by decide)
            have ef : ∀ f, (frm A [52, 53, 54, 55, 56, 57, 58, 59, 60, 61, 62, 63, 64, 65, 66, 67, 68, 69, 70, 71, 72, 73, 74, 75, 76, 77, 78, 6] u).eval (.func f) = .func (.func f) #[] #[] := fun _ => rfl
            generalize (frm A [52, 53, 54, 55, 56, 57, 58, 59, 60, 61, 62, 63, 64, 65, 66, 67, 68, 69, 70, 71, 72, 73, 74, 75, 76, 77, 78, 6] u).eval = ev at *
            exact k_call _ _ ⟨_, fg, rfl⟩ rfl (by simp [go_sem, ef, e71]) (wFormN2 n2 (rfl)) (fun w' hb => nxt hG hb) (fun _ _ => rfl)
          · intro u W hG hf
            have f70 : u 18 = .agg #[.bool (neg (x)), .string (mag (x))] := hf 18 (by decide)
            have e70 := frm_head (ds := [52, 53, 54, 55, 56, 57, 58, 59, 60, 61, 62, 63, 64, 65, 66, 67, 68, 69, 70, 71, 72, 73, 74, 75, 76, 77, 78, 6]) (u := u) (k := 70) (i := 18) (by rw [hN]; decide) rfl f70
            have f72 : u 20 = .agg #[.bool (neg (y)), .string (mag (y))] := hf 20 (by decide)
            have e72 := frm_head (ds := [52, 53, 54, 55, 56, 57, 58, 59, 60, 61, 62, 63, 64, 65, 66, 67, 68, 69, 70, 71, 72, 73, 74, 75, 76, 77, 78, 6]) (u := u) (k := 72) (i := 20) (by rw [hN]; decide) rfl f72
            have fg : u 14 = .bool true := hf 14 (by decide)
            generalize (frm A [52, 53, 54, 55, 56, 57, 58, 59, 60, 61, 62, 63, 64, 65, 66, 67, 68, 69, 70, 71, 72, 73, 74, 75, 76, 77, 78, 6] u).eval = ev at *
            refine k_val (.bool false) ⟨_, fg, rfl⟩ rfl hG ?_ rfl
            simp [go_sem, e70, e72]
            exact mk_ne hxy
          · intro u W hG hf
            have f68 : u 16 = .bool false := hf 16 (by decide)
            have e68 := frm_head (ds := [52, 53, 54, 55, 56, 57, 58, 59, 60, 61, 62, 63, 64, 65, 66, 67, 68, 69, 70, 71, 72, 73, 74, 75, 76, 77, 78, 6]) (u := u) (k := 68) (i := 16) (by rw [hN]; decide) rfl f68
            have f73 : u 21 = .bool false := hf 21 (by decide)
            have e73 := frm_head (ds := [52, 53, 54, 55, 56, 57, 58, 59, 60, 61, 62, 63, 64, 65, 66, 67, 68, 69, 70, 71, 72, 73, 74, 75, 76, 77, 78, 6]) (u := u) (k := 73) (i := 21) (by rw [hN]; decide) rfl f73
            have fg : u 14 = .bool true := hf 14 (by decide)
            generalize (frm A [52, 53, 54, 55, 56, 57, 58, 59, 60, 61, 62, 63, 64, 65, 66, 67, 68, 69, 70, 71, 72, 73, 74, 75, 76, 77, 78, 6] u).eval = ev at *
            refine k_val (.bool true) ⟨_, fg, rfl⟩ rfl hG ?_ rfl
            simp [go_sem, e68, e73]
          · intro u W hG hf
            have f66 : u 14 = .bool true := hf 14 (by decide)
            have e66 := frm_head (ds := [52, 53, 54, 55, 56, 57, 58, 59, 60, 61, 62, 63, 64, 65, 66, 67, 68, 69, 70, 71, 72, 73, 74, 75, 76, 77, 78, 6]) (u := u) (k := 66) (i := 14) (by rw [hN]; decide) rfl f66
            have f74 : u 22 = .bool true := hf 22 (by decide)
            have e74 := frm_head (ds := [52, 53, 54, 55, 56, 57, 58, 59, 60, 61, 62, 63, 64, 65, 66, 67, 68, 69, 70, 71, 72, 73, 74, 75, 76, 77, 78, 6]) (u := u) (k := 74) (i := 22) (by rw [hN]; decide) rfl f74
            generalize (frm A [52, 53, 54, 55, 56, 57, 58, 59, 60, 61, 62, 63, 64, 65, 66, 67, 68, 69, 70, 71, 72, 73, 74, 75, 76, 77, 78, 6] u).eval = ev at *
            refine k_val (.bool true) rfl rfl hG ?_ rfl
            simp [go_sem, e66, e74]
          · intro u W hG hf
            have f75 : u 23 = .bool true := hf 23 (by decide)
            have e75 := frm_head (ds := [52, 53, 54, 55, 56, 57, 58, 59, 60, 61, 62, 63, 64, 65, 66, 67, 68, 69, 70, 71, 72, 73, 74, 75, 76, 77, 78, 6]) (u := u) (k := 75) (i := 23) (by rw [hN]; decide) rfl f75
            generalize (frm A [52, 53, 54, 55, 56, 57, 58, 59, 60, 61, 62, 63, 64, 65, 66, 67, 68, 69, 70, 71, 72, 73, 74, 75, 76, 77, 78, 6] u).eval = ev at *
            refine k_val (.bool true) rfl rfl hG ?_ rfl
            simp [go_sem, e75]
          · intro u W hG hf
            have fg : u 24 = .bool true := hf 24 (by decide)
            have ef : ∀ f, (frm A [52, 53, 54, 55, 56, 57, 58, 59, 60, 61, 62, 63, 64, 65, 66, 67, 68, 69, 70, 71, 72, 73, 74, 75, 76, 77, 78, 6] u).eval (.func f) = .func (.func f) #[] #[] := fun _ => rfl
            generalize (frm A [52, 53, 54, 55, 56, 57, 58, 59, 60, 61, 62, 63, 64, 65, 66, 67, 68, 69, 70, 71, 72, 73, 74, 75, 76, 77, 78, 6] u).eval = ev at *
            exact k_call _ _ ⟨_, fg, rfl⟩ rfl (by simp [go_sem, ef]) (HA.out W (nxt hB hG)) (fun w' hb => nxt hG hb) (fun _ _ => rfl)
          · intro u W hG hf
            have f76 : u 24 = .bool true := hf 24 (by decide)
            have e76 := frm_head (ds := [52, 53, 54, 55, 56, 57, 58, 59, 60, 61, 62, 63, 64, 65, 66, 67, 68, 69, 70, 71, 72, 73, 74, 75, 76, 77, 78, 6]) (u := u) (k := 76) (i := 24) (by rw [hN]; decide) rfl f76
            have f77 : u 25 = .bool true := hf 25 (by decide)
            have e77 := frm_head (ds := [52, 53, 54, 55, 56, 57, 58, 59, 60, 61, 62, 63, 64, 65, 66, 67, 68, 69, 70, 71, 72, 73, 74, 75, 76, 77, 78, 6]) (u := u) (k := 77) (i := 25) (by rw [hN]; decide) rfl f77
            generalize (frm A [52, 53, 54, 55, 56, 57, 58, 59, 60, 61, 62, 63, 64, 65, 66, 67, 68, 69, 70, 71, 72, 73, 74, 75, 76, 77, 78, 6] u).eval = ev at *
            refine k_val (.bool true) rfl rfl hG ?_ rfl
            simp [go_sem, e76, e77]
          · intro u W hG hf
            have f78 : u 26 = .bool true := hf 26 (by decide)
            have e78 := frm_head (ds := [52, 53, 54, 55, 56, 57, 58, 59, 60, 61, 62, 63, 64, 65, 66, 67, 68, 69, 70, 71, 72, 73, 74, 75, 76, 77, 78, 6]) (u := u) (k := 78) (i := 26) (by rw [hN]; decide) rfl f78
            generalize (frm A [52, 53, 54, 55, 56, 57, 58, 59, 60, 61, 62, 63, 64, 65, 66, 67, 68, 69, 70, 71, 72, 73, 74, 75, 76, 77, 78, 6] u).eval = ev at *
            refine k_val (.bool true) rfl rfl hG ?_ rfl
            simp [go_sem, e78]
        case hlate =>
          intro A _
          exact ⟨trivial, trivial, trivial, trivial, trivial, trivial, trivial, trivial, trivial, trivial, trivial, trivial, trivial, trivial, trivial, trivial, trivial, trivial, trivial, trivial, trivial, trivial, trivial, trivial, trivial, trivial, trivial, trivial, trivial⟩
        case htail =>
          intro u w4 hG hP' _
          have f6 : u 27 = .bool true := hP' 27 (by decide)
          simp only [putAll, Act.put, List.setIfInBounds_toArray, List.set_cons_zero, List.set_cons_succ, List.length_cons, List.length_nil, Nat.reduceAdd, List.drop_succ_cons, List.drop_zero, f6]
          go_wp2
          go_ret
          exact ⟨rfl, nxt hB hG⟩

set_option maxRecDepth 100000 in
set_option maxHeartbeats 2000000 in
theorem wholeOrder_any (s1 s2 s3 : ByteArray) (a1 a2 a3 : Bool) (w : World) (hT : TabAt 0 Lib.deBruijn64tab w) :
    Calls Tryd.prog 8 #[.agg #[.bool a1, .string s1], .agg #[.bool a2, .string s2], .agg #[.bool a3, .string s3]] w fun e w' => e = .returned (.bool true) ∧ Below w.heap.size w w' := by
  have HA := Lib.hid (fun W (h : Below w.heap.size w W) => wawake_any W (tab_keep hT h))
  clear hT
  by_cases hbig : (200 : Int) < (s1.size : Int) ∨ (200 : Int) < (s2.size : Int) ∨ (200 : Int) < (s3.size : Int)
  · have cl := Lib.hid (fun W => long3_yes s1 s2 s3 a1 a2 a3 200 W hbig)
    clear hbig
    go_enter Tryd.func8, Tryd.ntmps8
    go_upto_region 1 with (fail)
    have X1 := ((Bx.new w 26 #[.bool a1, .string s1]).alloc (.cells #[.bool a2, .string s2] 26)).alloc (.cells #[.bool a3, .string s3] 26)
    have X2 := (Bx.at1 w (.cells #[.bool a1, .string s1] 26) 26 #[.bool a2, .string s2]).alloc (.cells #[.bool a3, .string s3] 26)
    have X3 := Bx.at2 w (.cells #[.bool a1, .string s1] 26) (.cells #[.bool a2, .string s2] 26) 26 #[.bool a3, .string s3]
    have hB := b3 w (.cells #[.bool a1, .string s1] 26) (.cells #[.bool a2, .string s2] 26) (.cells #[.bool a3, .string s3] 26)
    generalize ((w.alloc (.cells #[.bool a1, .string s1] 26)).alloc (.cells #[.bool a2, .string s2] 26)).alloc (.cells #[.bool a3, .string s3] 26) = w0 at *
    have hl0 := X1.lt
    have hl1 := X2.lt
    have hl2 := X3.lt
    obtain ⟨p1, p2, _, _⟩ := X1.two
    obtain ⟨q1, q2, _, _⟩ := X2.two
    obtain ⟨r1, r2, _, _⟩ := X3.two
    go_wp2_with fail
    refine (cl.out w0).mono ?_
    rintro e w1 ⟨rfl, rfl⟩
    replace hB := nxtA hB (.cells #[.bool a1, .string s1, .bool a2, .string s2, .bool a3, .string s3] 26)
    go_wp2_with fail
    refine (HA.out _ hB).mono ?_
    rintro e wz ⟨rfl, hb⟩
    go_wp2
    go_ret
    exact ⟨rfl, nxt hB hb⟩
  have h1 : s1.size ≤ 200 := by omega
  have h2 : s2.size ≤ 200 := by omega
  have h3 : s3.size ≤ 200 := by omega
  exact wholeOrder_main s1 s2 s3 a1 a2 a3 _ _ _ _ _ _ w (num_raw a1 s1 (by omega)) (num_raw a2 s2 (by omega)) (num_raw a3 s3 (by omega)) (bsz_up (bsz_ival a1 s1) h1) (bsz_up (bsz_ival a2 s2) h2) (bsz_up (bsz_ival a3 s3) h3) rfl rfl rfl HA (Lib.hid (fun W => long3_no s1 s2 s3 a1 a2 a3 200 W (by omega) (by omega) (by omega)))

end Go.Proofs.YtmnmfidcldmhdaaDoor
