/- The walk of ogeelaw02.WholeParts: it answers true. -/
import Derived.Test.YtmnmfidcldmhdaaDoorNum
namespace Go.Proofs.YtmnmfidcldmhdaaDoor
open Go.RowKit

set_option maxRecDepth 100000 in
set_option maxHeartbeats 2000000 in
theorem wholeParts_zero (s1 s2 : ByteArray) (a1 a2 : Bool) (n1 n2 : Int) (w : World)
    (HA : Hid (∀ W : World, Below w.heap.size w W → Calls Tryd.prog 14 #[] W fun e w' => e = .returned (.bool true) ∧ Below W.heap.size W w'))
    (cl : Hid (∀ W : World, Calls Tryd.prog 13 #[.int .i64 100, .slice (some ⟨W.heap.size, 0, none⟩) 2 2] (W.alloc (.cells #[.bool a1, .string s1, .bool a2, .string s2] 26)) fun e w' => e = .returned (.bool false) ∧ W.alloc (.cells #[.bool a1, .string s1, .bool a2, .string s2] 26) = w'))
    (cD : Hid (∀ W : World, Calls Tryd.prog 25 #[.agg #[.bool a1, .string s1], .agg #[.bool a2, .string s2]] W fun e w' => e = .returned (.tuple #[.agg #[.bool false, .string ⟨#[]⟩], .agg #[.bool false, .string ⟨#[]⟩], .bool false]) ∧ Below W.heap.size W w'))
    (cG : Hid (∀ W : World, Calls Tryd.prog 31 #[.agg #[.bool a2, .string s2]] W fun e w' => e = .returned (.int .i64 0) ∧ Below W.heap.size W w')) :
    Calls Tryd.prog 9 #[.agg #[.bool a1, .string s1], .agg #[.bool a2, .string s2], .int .u8 n1, .int .u8 n2] w fun e w' => e = .returned (.bool true) ∧ Below w.heap.size w w' := by
  go_enter Tryd.func9, Tryd.ntmps9
  go_upto_region 1 with (fail)
  have X1 := (Bx.new w 26 #[.bool a1, .string s1]).alloc (.cells #[.bool a2, .string s2] 26)
  have X2 := Bx.at1 w (.cells #[.bool a1, .string s1] 26) 26 #[.bool a2, .string s2]
  have hB := b2 w (.cells #[.bool a1, .string s1] 26) (.cells #[.bool a2, .string s2] 26)
  generalize (w.alloc (.cells #[.bool a1, .string s1] 26)).alloc (.cells #[.bool a2, .string s2] 26) = w0 at *
  have hl0 := X1.lt
  have hl1 := X2.lt
  obtain ⟨p1, p2, _, _⟩ := X1.two
  obtain ⟨q1, q2, _, _⟩ := X2.two
  go_wp2_with fail
  refine (cl.out w0).mono ?_
  rintro e w1 ⟨rfl, rfl⟩
  replace hB := nxtA hB (.cells #[.bool a1, .string s1, .bool a2, .string s2] 26)
  replace X1 := X1.alloc (.cells #[.bool a1, .string s1, .bool a2, .string s2] 26)
  replace X2 := X2.alloc (.cells #[.bool a1, .string s1, .bool a2, .string s2] 26)
  clear p1 p2 q1 q2
  generalize w0.alloc (.cells #[.bool a1, .string s1, .bool a2, .string s2] 26) = w1 at *
  obtain ⟨p1, p2, _, _⟩ := X1.two
  obtain ⟨q1, q2, _, _⟩ := X2.two
  go_wp2_with fail
  refine (cD.out _).mono ?_
  rintro e w3 ⟨rfl, hb⟩
  replace X1 := X1.later hb
  replace X2 := X2.later hb
  replace hB := nxt hB hb
  clear hb p1 p2 q1 q2
  have hl3 := X2.lt
  have X3 := (Bx.new w3 26 #[.bool false, .string ⟨#[]⟩]).alloc (.cells #[.bool false, .string ⟨#[]⟩] 26)
  have X4 := Bx.at1 w3 (.cells #[.bool false, .string ⟨#[]⟩] 26) 26 #[.bool false, .string ⟨#[]⟩]
  replace X1 := (X1.alloc (.cells #[.bool false, .string ⟨#[]⟩] 26)).alloc (.cells #[.bool false, .string ⟨#[]⟩] 26)
  replace X2 := (X2.alloc (.cells #[.bool false, .string ⟨#[]⟩] 26)).alloc (.cells #[.bool false, .string ⟨#[]⟩] 26)
  replace hB := nxtA (nxtA hB (.cells #[.bool false, .string ⟨#[]⟩] 26)) (.cells #[.bool false, .string ⟨#[]⟩] 26)
  obtain ⟨p1, p2, _, _⟩ := X1.two
  obtain ⟨q1, q2, _, _⟩ := X2.two
  go_wp2_with fail
  generalize (w3.alloc (.cells #[.bool false, .string ⟨#[]⟩] 26)).alloc (.cells #[.bool false, .string ⟨#[]⟩] 26) = w4 at *
  generalize w3.heap.size = g at *
  refine (cG.out _).mono ?_
  rintro e w5 ⟨rfl, hb⟩
  replace X1 := X1.later hb
  replace X2 := X2.later hb
  replace X3 := X3.later hb
  replace X4 := X4.later hb
  replace hB := nxt hB hb
  clear hb p1 p2 q1 q2
  obtain ⟨r1, r2, _, _⟩ := X3.two
  obtain ⟨t1, t2, _, _⟩ := X4.two
  clear X1 X2 X3 X4
  go_wp2_with fail
  refine (HA.out _ hB).mono ?_
  rintro e w6 ⟨rfl, hb⟩
  go_wp2
  go_ret
  exact ⟨rfl, nxt hB hb⟩

set_option maxRecDepth 100000 in
set_option maxHeartbeats 4000000 in
theorem wholeParts_main (s1 s2 : ByteArray) (a1 a2 : Bool) (n1 n2 x y yy q m gy k i : Int) (w : World) (nA : Num a1 s1 x) (nB : Num a2 s2 y) (nC : Num false s2 yy) (hx : bsz x ≤ 100) (hy : bsz y ≤ 100)
    (h0 : y ≠ 0) (hq : x / y = q) (hm : x % y = m) (hyy : m < yy) (hgy : sgn y = gy) (hk0 : 0 ≤ k) (hk : k < 100) (hi0 : 0 ≤ i) (hi : i < 6) (hkn : n1 % 100 = k) (hin : n2 % 6 = i) (hn1 : 0 ≤ n1) (hn1b : n1 ≤ 255) (hn2 : 0 ≤ n2) (hn2b : n2 ≤ 255) (hT : TabAt 0 Lib.deBruijn64tab w)
    (HA : Hid (∀ W : World, Below w.heap.size w W → Calls Tryd.prog 14 #[] W fun e w' => e = .returned (.bool true) ∧ Below W.heap.size W w'))
    (cl : Hid (∀ W : World, Calls Tryd.prog 13 #[.int .i64 100, .slice (some ⟨W.heap.size, 0, none⟩) 2 2] (W.alloc (.cells #[.bool a1, .string s1, .bool a2, .string s2] 26)) fun e w' => e = .returned (.bool false) ∧ W.alloc (.cells #[.bool a1, .string s1, .bool a2, .string s2] 26) = w')) :
    Calls Tryd.prog 9 #[.agg #[.bool a1, .string s1], .agg #[.bool a2, .string s2], .int .u8 n1, .int .u8 n2] w fun e w' => e = .returned (.bool true) ∧ Below w.heap.size w w' := by
  have hgy0 : ¬ gy = 0 := fun h => h0 (sgn_eq.1 (hgy.trans h))
  have cD := Lib.hid (fun W => wDivN (W := W) nA nB h0 hq hm)
  have cG := Lib.hid (fun W => wSignN (W := W) nB hgy)
  have HT := Lib.hid hT
  have bq : bsz q ≤ 100 := by rw [← hq]; exact Nat.le_trans (bsz_natAbs_le (Int.natAbs_ediv_le_natAbs x y)) hx
  have hm0 : 0 ≤ m := by rw [← hm]; exact Int.emod_nonneg x h0
  have bm : bsz m ≤ 100 := by
    have h1 := Int.emod_lt x h0
    rw [hm] at h1
    exact Nat.le_trans (bsz_natAbs_le (by omega)) hy
  have nQ : Num (neg q) (mag q) q := num_mk bq (by decide)
  have nM : Num (neg m) (mag m) m := num_mk bm (by decide)
  have nYQ : Num (neg (y * q)) (mag (y * q)) (y * q) := num_mk (bsz_mul_le hy bq) (by decide)
  have e1 : y * q + m = x := by rw [← hq, ← hm]; exact Int.mul_ediv_add_emod x y
  obtain ⟨gm, hgm⟩ : ∃ gm, sgn m = gm := ⟨_, rfl⟩
  have hgm0 : 0 ≤ gm := by
    rw [← hgm]
    refine Int.not_lt.1 fun h => ?_
    have := sgn_lt.1 h
    omega
  obtain ⟨cs, hcs⟩ : ∃ cs, sgn (m - yy) = cs := ⟨_, rfl⟩
  have hcs0 : cs < 0 := by rw [← hcs]; exact sgn_lt.2 (by omega)
  obtain ⟨pk, hpk⟩ : ∃ pk, shiftI 1 k = pk := ⟨_, rfl⟩
  have hpk2 : pk = 2 ^ k.toNat := by rw [← hpk]; unfold shiftI; rw [if_pos hk0, Int.one_mul]
  have hpk0 : pk ≠ 0 := by
    rw [hpk2]
    have := Int.pow_pos (n := 2) (m := k.toNat) (by decide)
    omega
  have nO : Num (neg 1) (mag 1) 1 := num_mk (n := 1) (bsz_le (by decide)) (by decide)
  have nPk : Num (neg pk) (mag pk) pk := num_mk (n := 100) (by
    rw [hpk2, ← Int.one_mul (2 ^ k.toNat)]
    exact bsz_up (bsz_shl_le (n := 1) (bsz_le (by decide))) (by omega)) (by decide)
  obtain ⟨qk, hqk⟩ : ∃ qk, x / pk = qk := ⟨_, rfl⟩
  obtain ⟨rk, hrk⟩ : ∃ rk, x % pk = rk := ⟨_, rfl⟩
  have hsh : shiftI x (-k) = qk := by
    rw [← hqk, hpk2]
    unfold shiftI
    by_cases h : k = 0
    · subst h; simp
    · rw [if_neg (by omega), Int.neg_neg]
  obtain ⟨yi, hyi⟩ : ∃ yi, y ^ i.toNat = yi := ⟨_, rfl⟩
  obtain ⟨y5, hy5⟩ : ∃ y5, y ^ (5 : Int).toNat = y5 := ⟨_, rfl⟩
  obtain ⟨yp, hyp⟩ : ∃ yp, y ^ (i + 5).toNat = yp := ⟨_, rfl⟩
  have hmul : yi * y5 = yp := by
    rw [← hyi, ← hy5, ← hyp, ← Int.pow_add]
    congr 1; omega
  have nYi : Num (neg yi) (mag yi) yi := num_mk (n := 1000) (by rw [← hyi]; exact bsz_up (bsz_pow_le hy i.toNat) (by omega)) (by decide)
  have nY5 : Num (neg y5) (mag y5) y5 := num_mk (n := 1000) (by rw [← hy5]; exact bsz_up (bsz_pow_le hy (5 : Int).toNat) (by decide)) (by decide)
  have hwk : IntKind.i64.wrap (-k) = -k := IntWalk.i64_in _ (by omega)
  have hw5 : IntKind.i64.wrap (i + 5) = i + 5 := IntWalk.i64_in _ (by omega)
  have kO := Lib.hid (fun W => wOf_any 1 W (by decide) (by decide))
  have NK := Lib.hid (And.intro nA (And.intro nB (And.intro nO (And.intro nPk (And.intro hpk (And.intro hpk0 (And.intro hqk (And.intro hrk (And.intro hsh (And.intro hyi (And.intro hy5 (And.intro hyp (And.intro hmul (And.intro nYi (And.intro nY5 (And.intro hwk (And.intro hw5 (And.intro hk0 (And.intro hk (And.intro hi0 hi))))))))))))))))))))
  have NS := Lib.hid (And.intro nA (And.intro nB (And.intro nC (And.intro nQ (And.intro nM (And.intro nYQ (And.intro e1 (And.intro hgm (And.intro hgm0 (And.intro hcs hcs0))))))))))
  clear h0 hq hm hyy hgy hT bq hm0 bm nQ nM nYQ e1 hgm hgm0 hcs hcs0 nA nB nC hx hy nO nPk hpk2 hpk hpk0 hqk hrk hsh hyi hy5 hyp hmul nYi nY5 hwk hw5
  go_enter Tryd.func9, Tryd.ntmps9
  go_upto_region 1 with (fail)
  have X1 := (Bx.new w 26 #[.bool a1, .string s1]).alloc (.cells #[.bool a2, .string s2] 26)
  have X2 := Bx.at1 w (.cells #[.bool a1, .string s1] 26) 26 #[.bool a2, .string s2]
  have hB := b2 w (.cells #[.bool a1, .string s1] 26) (.cells #[.bool a2, .string s2] 26)
  generalize (w.alloc (.cells #[.bool a1, .string s1] 26)).alloc (.cells #[.bool a2, .string s2] 26) = w0 at *
  have hl0 := X1.lt
  have hl1 := X2.lt
  obtain ⟨p1, p2, _, _⟩ := X1.two
  obtain ⟨q1, q2, _, _⟩ := X2.two
  go_wp2_with fail
  refine (cl.out w0).mono ?_
  rintro e w1 ⟨rfl, rfl⟩
  replace hB := nxtA hB (.cells #[.bool a1, .string s1, .bool a2, .string s2] 26)
  replace X1 := X1.alloc (.cells #[.bool a1, .string s1, .bool a2, .string s2] 26)
  replace X2 := X2.alloc (.cells #[.bool a1, .string s1, .bool a2, .string s2] 26)
  clear p1 p2 q1 q2
  generalize w0.alloc (.cells #[.bool a1, .string s1, .bool a2, .string s2] 26) = w1 at *
  obtain ⟨p1, p2, _, _⟩ := X1.two
  obtain ⟨q1, q2, _, _⟩ := X2.two
  go_wp2_with fail
  refine (cD.out _).mono ?_
  rintro e w3 ⟨rfl, hb⟩
  replace X1 := X1.later hb
  replace X2 := X2.later hb
  replace hB := nxt hB hb
  clear hb p1 p2 q1 q2
  have hl3 := X2.lt
  have X3 := (Bx.new w3 26 #[.bool (neg (q)), .string (mag (q))]).alloc (.cells #[.bool (neg (m)), .string (mag (m))] 26)
  have X4 := Bx.at1 w3 (.cells #[.bool (neg (q)), .string (mag (q))] 26) 26 #[.bool (neg (m)), .string (mag (m))]
  replace X1 := (X1.alloc (.cells #[.bool (neg (q)), .string (mag (q))] 26)).alloc (.cells #[.bool (neg (m)), .string (mag (m))] 26)
  replace X2 := (X2.alloc (.cells #[.bool (neg (q)), .string (mag (q))] 26)).alloc (.cells #[.bool (neg (m)), .string (mag (m))] 26)
  replace hB := nxtA (nxtA hB (.cells #[.bool (neg (q)), .string (mag (q))] 26)) (.cells #[.bool (neg (m)), .string (mag (m))] 26)
  obtain ⟨p1, p2, _, _⟩ := X1.two
  obtain ⟨q1, q2, _, _⟩ := X2.two
  go_wp2_with fail
  generalize (w3.alloc (.cells #[.bool (neg (q)), .string (mag (q))] 26)).alloc (.cells #[.bool (neg (m)), .string (mag (m))] 26) = w4 at *
  generalize w3.heap.size = g at *
  refine (cG.out _).mono ?_
  rintro e w5 ⟨rfl, hb⟩
  replace X1 := X1.later hb
  replace X2 := X2.later hb
  replace X3 := X3.later hb
  replace X4 := X4.later hb
  replace hB := nxt hB hb
  clear hb p1 p2 q1 q2
  obtain ⟨p1, p2, _, _⟩ := X1.two
  obtain ⟨q1, q2, _, _⟩ := X2.two
  have X5 := Bx.new w5 26 #[.bool false, .string s2]
  replace X1 := X1.alloc (.cells #[.bool false, .string s2] 26)
  replace X2 := X2.alloc (.cells #[.bool false, .string s2] 26)
  replace X3 := X3.alloc (.cells #[.bool false, .string s2] 26)
  replace X4 := X4.alloc (.cells #[.bool false, .string s2] 26)
  replace hB := nxtA hB (.cells #[.bool false, .string s2] 26)
  have HK := Lib.hid (And.intro X1 (And.intro X2 (And.intro X3 (And.intro X4 (And.intro X5 hB)))))
  clear X1 X2 X3 X4 X5 hB
  go_upto_region 8 with (fail)
  obtain ⟨X1, X2, X3, X4, X5, hB⟩ := HK.out
  clear HK p1 p2 q1 q2
  generalize w5.alloc (.cells #[.bool false, .string s2] 26) = w6 at *
  generalize w5.heap.size = g5 at *
  obtain ⟨nA, nB, nC, nQ, nM, nYQ, e1, hgm, hgm0, hcs, hcs0⟩ := NS.out
  refine wp_region_know [50, 51, 52, 53, 54, 55, 56, 57, 58, 59, 60, 61, 62, 63, 64, 65, 66, 67, 68, 69, 70, 71, 72, 73, 74] (fun W => Below w6.heap.size w6 W) (kAt [eqK (.bool true), eqK (.bool false), eqK (.bool false), eqK (.agg #[.bool a2, .string s2]), eqK (.agg #[.bool (neg (q)), .string (mag (q))]), sliK w6.heap.size 26 2 #[.bool a2, .string s2, .bool (neg (q)), .string (mag (q))], eqK (.agg #[.bool (neg (y * q)), .string (mag (y * q))]), eqK (.agg #[.bool (neg (m)), .string (mag (m))]), sliK w6.heap.size 26 2 #[.bool (neg (y * q)), .string (mag (y * q)), .bool (neg (m)), .string (mag (m))], eqK (.agg #[.bool (neg (x)), .string (mag (x))]), eqK (.agg #[.bool a1, .string s1]), eqK (.agg #[.bool (neg (x)), .string (mag (x))]), eqK (.bool false), eqK (.bool false), eqK (.bool false), eqK (.agg #[.bool (neg (m)), .string (mag (m))]), eqK (.int .i64 (gm)), eqK (.bool false), eqK (.bool false), eqK (.bool false), eqK (.agg #[.bool (neg (m)), .string (mag (m))]), eqK (.agg #[.bool false, .string s2]), eqK (.int .i64 (cs)), eqK (.bool false), eqK (.bool false)])
    (fun _ => true) (fun i => i == 5 || i == 8) (by kernel_rfl) (by kernel_rfl) (fun _ _ _ _ _ h => h) (by kernel_rfl) (by kernel_rfl) 116 rfl (by kernel_rfl) (by kernel_rfl) ?hG (fun i v w w' hi => kAt_stab (by exact ⟨stab_eq _, stab_eq _, stab_eq _, stab_eq _, stab_eq _, stab_sli _ _ _ _, stab_eq _, stab_eq _, stab_sli _ _ _ _, stab_eq _, stab_eq _, stab_eq _, stab_eq _, stab_eq _, stab_eq _, stab_eq _, stab_eq _, stab_eq _, stab_eq _, stab_eq _, stab_eq _, stab_eq _, stab_eq _, stab_eq _, stab_eq _, trivial⟩) _ i v w w' hi) (fun i v w hi hf h => kAt_fresh (k := 0) (fr := fun i => i == 5 || i == 8) (by exact ⟨fun h => absurd h (by decide), fun h => absurd h (by decide), fun h => absurd h (by decide), fun h => absurd h (by decide), fun h => absurd h (by decide), fun _ => fresh_sli, fun h => absurd h (by decide), fun h => absurd h (by decide), fun _ => fresh_sli, fun h => absurd h (by decide), fun h => absurd h (by decide), fun h => absurd h (by decide), fun h => absurd h (by decide), fun h => absurd h (by decide), fun h => absurd h (by decide), fun h => absurd h (by decide), fun h => absurd h (by decide), fun h => absurd h (by decide), fun h => absurd h (by decide), fun h => absurd h (by decide), fun h => absurd h (by decide), fun h => absurd h (by decide), fun h => absurd h (by decide), fun h => absurd h (by decide), fun h => absurd h (by decide), trivial⟩) i v w hi (by rw [Nat.zero_add]; exact hf) h) ?hop ?hlate ?htail
  case hG => exact (Below.refl _ _).drew
  case hop =>
    intro A hA
    have hN : A.tmps.size = 116 := by rw [hA]; rfl
    have q4 : A.tmps.getD 4 undef = .pointer (some ⟨w.heap.size, 0, none⟩) := by rw [hA]; rfl
    have q5 : A.tmps.getD 5 undef = .pointer (some ⟨w.heap.size + 1, 0, none⟩) := by rw [hA]; rfl
    have q9 : A.tmps.getD 9 undef = .pointer (some ⟨g, 0, none⟩) := by rw [hA]; rfl
    have q10 : A.tmps.getD 10 undef = .pointer (some ⟨g + 1, 0, none⟩) := by rw [hA]; rfl
    have q12 : A.tmps.getD 12 undef = .pointer (some ⟨g5, 0, none⟩) := by rw [hA]; rfl
    have q11 : A.tmps.getD 11 undef = .bool true := by rw [hA]; rfl
    clear hA
    refine ⟨?_, ?_, ?_, ?_, ?_, ?_, ?_, ?_, ?_, ?_, ?_, ?_, ?_, ?_, ?_, ?_, ?_, ?_, ?_, ?_, ?_, ?_, ?_, ?_, ?_, trivial⟩
    · intro u W hG hf
      have e11 := frm_base (ds := [50, 51, 52, 53, 54, 55, 56, 57, 58, 59, 60, 61, 62, 63, 64, 65, 66, 67, 68, 69, 70, 71, 72, 73, 74]) (u := u) (k := 11) (by rw [hN]; decide) rfl q11
      generalize (frm A [50, 51, 52, 53, 54, 55, 56, 57, 58, 59, 60, 61, 62, 63, 64, 65, 66, 67, 68, 69, 70, 71, 72, 73, 74] u).eval = ev at *
      refine k_val (.bool true) rfl rfl hG ?_ rfl
      simp [go_sem, e11]
    · intro u W hG hf
      have f50 : u 0 = .bool true := hf 0 (by decide)
      have e50 := frm_head (ds := [50, 51, 52, 53, 54, 55, 56, 57, 58, 59, 60, 61, 62, 63, 64, 65, 66, 67, 68, 69, 70, 71, 72, 73, 74]) (u := u) (k := 50) (i := 0) (by rw [hN]; decide) rfl f50
      generalize (frm A [50, 51, 52, 53, 54, 55, 56, 57, 58, 59, 60, 61, 62, 63, 64, 65, 66, 67, 68, 69, 70, 71, 72, 73, 74] u).eval = ev at *
      refine k_val (.bool false) rfl rfl hG ?_ rfl
      simp [go_sem, e50]
    · intro u W hG hf
      have f51 : u 1 = .bool false := hf 1 (by decide)
      have e51 := frm_head (ds := [50, 51, 52, 53, 54, 55, 56, 57, 58, 59, 60, 61, 62, 63, 64, 65, 66, 67, 68, 69, 70, 71, 72, 73, 74]) (u := u) (k := 51) (i := 1) (by rw [hN]; decide) rfl f51
      generalize (frm A [50, 51, 52, 53, 54, 55, 56, 57, 58, 59, 60, 61, 62, 63, 64, 65, 66, 67, 68, 69, 70, 71, 72, 73, 74] u).eval = ev at *
      refine k_val (.bool false) rfl rfl hG ?_ rfl
      simp [go_sem, e51]
    · intro u W hG hf
      have e5 := frm_base (ds := [50, 51, 52, 53, 54, 55, 56, 57, 58, 59, 60, 61, 62, 63, 64, 65, 66, 67, 68, 69, 70, 71, 72, 73, 74]) (u := u) (k := 5) (by rw [hN]; decide) rfl q5
      have fg : u 2 = .bool false := hf 2 (by decide)
      generalize (frm A [50, 51, 52, 53, 54, 55, 56, 57, 58, 59, 60, 61, 62, 63, 64, 65, 66, 67, 68, 69, 70, 71, 72, 73, 74] u).eval = ev at *
      have hx := X2.later hG
      have y0 := hx.cel 0
      have y1 := hx.cel 1
      simp at y0 y1
      refine k_val (.agg #[.bool a2, .string s2]) ⟨_, fg, rfl⟩ rfl hG ?_ rfl
      simp [go_sem, e5, y0, y1]
    · intro u W hG hf
      have e9 := frm_base (ds := [50, 51, 52, 53, 54, 55, 56, 57, 58, 59, 60, 61, 62, 63, 64, 65, 66, 67, 68, 69, 70, 71, 72, 73, 74]) (u := u) (k := 9) (by rw [hN]; decide) rfl q9
      have fg : u 2 = .bool false := hf 2 (by decide)
      generalize (frm A [50, 51, 52, 53, 54, 55, 56, 57, 58, 59, 60, 61, 62, 63, 64, 65, 66, 67, 68, 69, 70, 71, 72, 73, 74] u).eval = ev at *
      have hx := X3.later hG
      have y0 := hx.cel 0
      have y1 := hx.cel 1
      simp at y0 y1
      refine k_val (.agg #[.bool (neg (q)), .string (mag (q))]) ⟨_, fg, rfl⟩ rfl hG ?_ rfl
      simp [go_sem, e9, y0, y1]
    · intro u W hG hf
      have f53 : u 3 = .agg #[.bool a2, .string s2] := hf 3 (by decide)
      have e53 := frm_head (ds := [50, 51, 52, 53, 54, 55, 56, 57, 58, 59, 60, 61, 62, 63, 64, 65, 66, 67, 68, 69, 70, 71, 72, 73, 74]) (u := u) (k := 53) (i := 3) (by rw [hN]; decide) rfl f53
      have f54 : u 4 = .agg #[.bool (neg (q)), .string (mag (q))] := hf 4 (by decide)
      have e54 := frm_head (ds := [50, 51, 52, 53, 54, 55, 56, 57, 58, 59, 60, 61, 62, 63, 64, 65, 66, 67, 68, 69, 70, 71, 72, 73, 74]) (u := u) (k := 54) (i := 4) (by rw [hN]; decide) rfl f54
      have fg : u 2 = .bool false := hf 2 (by decide)
      generalize (frm A [50, 51, 52, 53, 54, 55, 56, 57, 58, 59, 60, 61, 62, 63, 64, 65, 66, 67, 68, 69, 70, 71, 72, 73, 74] u).eval = ev at *
      refine k_new (.slice (some ⟨W.heap.size, 0, none⟩) 2 2) (.cells #[.bool a2, .string s2, .bool (neg (q)), .string (mag (q))] 26) ⟨_, fg, rfl⟩ ?_ (nxtA hG _) ⟨_, rfl, below_le hG, Bx.new _ _ _⟩ rfl
      simp [go_sem, e53, e54]
    · intro u W hG hf
      obtain ⟨g55, f55, hb55, hx55⟩ : sliK w6.heap.size 26 2 #[.bool a2, .string s2, .bool (neg (q)), .string (mag (q))] (u 5) W := hf 5 (by decide)
      have e55 := frm_head (ds := [50, 51, 52, 53, 54, 55, 56, 57, 58, 59, 60, 61, 62, 63, 64, 65, 66, 67, 68, 69, 70, 71, 72, 73, 74]) (u := u) (k := 55) (i := 5) (by rw [hN]; decide) rfl f55
      have fg : u 2 = .bool false := hf 2 (by decide)
      have ef : ∀ f, (frm A [50, 51, 52, 53, 54, 55, 56, 57, 58, 59, 60, 61, 62, 63, 64, 65, 66, 67, 68, 69, 70, 71, 72, 73, 74] u).eval (.func f) = .func (.func f) #[] #[] := fun _ => rfl
      generalize (frm A [50, 51, 52, 53, 54, 55, 56, 57, 58, 59, 60, 61, 62, 63, 64, 65, 66, 67, 68, 69, 70, 71, 72, 73, 74] u).eval = ev at *
      exact k_call _ _ ⟨_, fg, rfl⟩ rfl (by simp [go_sem, ef, e55]) (wMul2N nB nQ (rfl) hx55) (fun w' hb => nxt hG hb) (fun _ _ => rfl)
    · intro u W hG hf
      have e10 := frm_base (ds := [50, 51, 52, 53, 54, 55, 56, 57, 58, 59, 60, 61, 62, 63, 64, 65, 66, 67, 68, 69, 70, 71, 72, 73, 74]) (u := u) (k := 10) (by rw [hN]; decide) rfl q10
      have fg : u 2 = .bool false := hf 2 (by decide)
      generalize (frm A [50, 51, 52, 53, 54, 55, 56, 57, 58, 59, 60, 61, 62, 63, 64, 65, 66, 67, 68, 69, 70, 71, 72, 73, 74] u).eval = ev at *
      have hx := X4.later hG
      have y0 := hx.cel 0
      have y1 := hx.cel 1
      simp at y0 y1
      refine k_val (.agg #[.bool (neg (m)), .string (mag (m))]) ⟨_, fg, rfl⟩ rfl hG ?_ rfl
      simp [go_sem, e10, y0, y1]
    · intro u W hG hf
      have f56 : u 6 = .agg #[.bool (neg (y * q)), .string (mag (y * q))] := hf 6 (by decide)
      have e56 := frm_head (ds := [50, 51, 52, 53, 54, 55, 56, 57, 58, 59, 60, 61, 62, 63, 64, 65, 66, 67, 68, 69, 70, 71, 72, 73, 74]) (u := u) (k := 56) (i := 6) (by rw [hN]; decide) rfl f56
      have f57 : u 7 = .agg #[.bool (neg (m)), .string (mag (m))] := hf 7 (by decide)
      have e57 := frm_head (ds := [50, 51, 52, 53, 54, 55, 56, 57, 58, 59, 60, 61, 62, 63, 64, 65, 66, 67, 68, 69, 70, 71, 72, 73, 74]) (u := u) (k := 57) (i := 7) (by rw [hN]; decide) rfl f57
      have fg : u 2 = .bool false := hf 2 (by decide)
      generalize (frm A [50, 51, 52, 53, 54, 55, 56, 57, 58, 59, 60, 61, 62, 63, 64, 65, 66, 67, 68, 69, 70, 71, 72, 73, 74] u).eval = ev at *
      refine k_new (.slice (some ⟨W.heap.size, 0, none⟩) 2 2) (.cells #[.bool (neg (y * q)), .string (mag (y * q)), .bool (neg (m)), .string (mag (m))] 26) ⟨_, fg, rfl⟩ ?_ (nxtA hG _) ⟨_, rfl, below_le hG, Bx.new _ _ _⟩ rfl
      simp [go_sem, e56, e57]
    · intro u W hG hf
      obtain ⟨g58, f58, hb58, hx58⟩ : sliK w6.heap.size 26 2 #[.bool (neg (y * q)), .string (mag (y * q)), .bool (neg (m)), .string (mag (m))] (u 8) W := hf 8 (by decide)
      have e58 := frm_head (ds := [50, 51, 52, 53, 54, 55, 56, 57, 58, 59, 60, 61, 62, 63, 64, 65, 66, 67, 68, 69, 70, 71, 72, 73, 74]) (u := u) (k := 58) (i := 8) (by rw [hN]; decide) rfl f58
      have fg : u 2 = .bool false := hf 2 (by decide)
      have ef : ∀ f, (frm A [50, 51, 52, 53, 54, 55, 56, 57, 58, 59, 60, 61, 62, 63, 64, 65, 66, 67, 68, 69, 70, 71, 72, 73, 74] u).eval (.func f) = .func (.func f) #[] #[] := fun _ => rfl
      generalize (frm A [50, 51, 52, 53, 54, 55, 56, 57, 58, 59, 60, 61, 62, 63, 64, 65, 66, 67, 68, 69, 70, 71, 72, 73, 74] u).eval = ev at *
      exact k_call _ _ ⟨_, fg, rfl⟩ rfl (by simp [go_sem, ef, e58]) (wAdd2N nYQ nM (e1) hx58) (fun w' hb => nxt hG hb) (fun _ _ => rfl)
    · intro u W hG hf
      have e4 := frm_base (ds := [50, 51, 52, 53, 54, 55, 56, 57, 58, 59, 60, 61, 62, 63, 64, 65, 66, 67, 68, 69, 70, 71, 72, 73, 74]) (u := u) (k := 4) (by rw [hN]; decide) rfl q4
      have fg : u 2 = .bool false := hf 2 (by decide)
      generalize (frm A [50, 51, 52, 53, 54, 55, 56, 57, 58, 59, 60, 61, 62, 63, 64, 65, 66, 67, 68, 69, 70, 71, 72, 73, 74] u).eval = ev at *
      have hx := X1.later hG
      have y0 := hx.cel 0
      have y1 := hx.cel 1
      simp at y0 y1
      refine k_val (.agg #[.bool a1, .string s1]) ⟨_, fg, rfl⟩ rfl hG ?_ rfl
      simp [go_sem, e4, y0, y1]
    · intro u W hG hf
      have f60 : u 10 = .agg #[.bool a1, .string s1] := hf 10 (by decide)
      have e60 := frm_head (ds := [50, 51, 52, 53, 54, 55, 56, 57, 58, 59, 60, 61, 62, 63, 64, 65, 66, 67, 68, 69, 70, 71, 72, 73, 74]) (u := u) (k := 60) (i := 10) (by rw [hN]; decide) rfl f60
      have fg : u 2 = .bool false := hf 2 (by decide)
      have ef : ∀ f, (frm A [50, 51, 52, 53, 54, 55, 56, 57, 58, 59, 60, 61, 62, 63, 64, 65, 66, 67, 68, 69, 70, 71, 72, 73, 74] u).eval (.func f) = .func (.func f) #[] #[] := fun _ => rfl
      generalize (frm A [50, 51, 52, 53, 54, 55, 56, 57, 58, 59, 60, 61, 62, 63, 64, 65, 66, 67, 68, 69, 70, 71, 72, 73, 74] u).eval = ev at *
      exact k_call _ _ ⟨_, fg, rfl⟩ rfl (by simp [go_sem, ef, e60]) (wFormN nA) (fun w' hb => nxt hG hb) (fun _ _ => rfl)
    · intro u W hG hf
      have f59 : u 9 = .agg #[.bool (neg (x)), .string (mag (x))] := hf 9 (by decide)
      have e59 := frm_head (ds := [50, 51, 52, 53, 54, 55, 56, 57, 58, 59, 60, 61, 62, 63, 64, 65, 66, 67, 68, 69, 70, 71, 72, 73, 74]) (u := u) (k := 59) (i := 9) (by rw [hN]; decide) rfl f59
      have f61 : u 11 = .agg #[.bool (neg (x)), .string (mag (x))] := hf 11 (by decide)
      have e61 := frm_head (ds := [50, 51, 52, 53, 54, 55, 56, 57, 58, 59, 60, 61, 62, 63, 64, 65, 66, 67, 68, 69, 70, 71, 72, 73, 74]) (u := u) (k := 61) (i := 11) (by rw [hN]; decide) rfl f61
      have fg : u 2 = .bool false := hf 2 (by decide)
      generalize (frm A [50, 51, 52, 53, 54, 55, 56, 57, 58, 59, 60, 61, 62, 63, 64, 65, 66, 67, 68, 69, 70, 71, 72, 73, 74] u).eval = ev at *
      refine k_val (.bool false) ⟨_, fg, rfl⟩ rfl hG ?_ rfl
      simp [go_sem, e59, e61]
    · intro u W hG hf
      have f52 : u 2 = .bool false := hf 2 (by decide)
      have e52 := frm_head (ds := [50, 51, 52, 53, 54, 55, 56, 57, 58, 59, 60, 61, 62, 63, 64, 65, 66, 67, 68, 69, 70, 71, 72, 73, 74]) (u := u) (k := 52) (i := 2) (by rw [hN]; decide) rfl f52
      have f62 : u 12 = .bool false := hf 12 (by decide)
      have e62 := frm_head (ds := [50, 51, 52, 53, 54, 55, 56, 57, 58, 59, 60, 61, 62, 63, 64, 65, 66, 67, 68, 69, 70, 71, 72, 73, 74]) (u := u) (k := 62) (i := 12) (by rw [hN]; decide) rfl f62
      generalize (frm A [50, 51, 52, 53, 54, 55, 56, 57, 58, 59, 60, 61, 62, 63, 64, 65, 66, 67, 68, 69, 70, 71, 72, 73, 74] u).eval = ev at *
      refine k_val (.bool false) rfl rfl hG ?_ rfl
      simp [go_sem, e52, e62]
    · intro u W hG hf
      have f63 : u 13 = .bool false := hf 13 (by decide)
      have e63 := frm_head (ds := [50, 51, 52, 53, 54, 55, 56, 57, 58, 59, 60, 61, 62, 63, 64, 65, 66, 67, 68, 69, 70, 71, 72, 73, 74]) (u := u) (k := 63) (i := 13) (by rw [hN]; decide) rfl f63
      generalize (frm A [50, 51, 52, 53, 54, 55, 56, 57, 58, 59, 60, 61, 62, 63, 64, 65, 66, 67, 68, 69, 70, 71, 72, 73, 74] u).eval = ev at *
      refine k_val (.bool false) rfl rfl hG ?_ rfl
      simp [go_sem, e63]
    · intro u W hG hf
      have e10 := frm_base (ds := [50, 51, 52, 53, 54, 55, 56, 57, 58, 59, 60, 61, 62, 63, 64, 65, 66, 67, 68, 69, 70, 71, 72, 73, 74]) (u := u) (k := 10) (by rw [hN]; decide) rfl q10
      have fg : u 14 = .bool false := hf 14 (by decide)
      generalize (frm A [50, 51, 52, 53, 54, 55, 56, 57, 58, 59, 60, 61, 62, 63, 64, 65, 66, 67, 68, 69, 70, 71, 72, 73, 74] u).eval = ev at *
      have hx := X4.later hG
      have y0 := hx.cel 0
      have y1 := hx.cel 1
      simp at y0 y1
      refine k_val (.agg #[.bool (neg (m)), .string (mag (m))]) ⟨_, fg, rfl⟩ rfl hG ?_ rfl
      simp [go_sem, e10, y0, y1]
    · intro u W hG hf
      have f65 : u 15 = .agg #[.bool (neg (m)), .string (mag (m))] := hf 15 (by decide)
      have e65 := frm_head (ds := [50, 51, 52, 53, 54, 55, 56, 57, 58, 59, 60, 61, 62, 63, 64, 65, 66, 67, 68, 69, 70, 71, 72, 73, 74]) (u := u) (k := 65) (i := 15) (by rw [hN]; decide) rfl f65
      have fg : u 14 = .bool false := hf 14 (by decide)
      have ef : ∀ f, (frm A [50, 51, 52, 53, 54, 55, 56, 57, 58, 59, 60, 61, 62, 63, 64, 65, 66, 67, 68, 69, 70, 71, 72, 73, 74] u).eval (.func f) = .func (.func f) #[] #[] := fun _ => rfl
      generalize (frm A [50, 51, 52, 53, 54, 55, 56, 57, 58, 59, 60, 61, 62, 63, 64, 65, 66, 67, 68, 69, 70, 71, 72, 73, 74] u).eval = ev at *
      exact k_call _ _ ⟨_, fg, rfl⟩ rfl (by simp [go_sem, ef, e65]) (wSignN nM (hgm)) (fun w' hb => nxt hG hb) (fun _ _ => rfl)
    · intro u W hG hf
      have f66 : u 16 = .int .i64 (gm) := hf 16 (by decide)
      have e66 := frm_head (ds := [50, 51, 52, 53, 54, 55, 56, 57, 58, 59, 60, 61, 62, 63, 64, 65, 66, 67, 68, 69, 70, 71, 72, 73, 74]) (u := u) (k := 66) (i := 16) (by rw [hN]; decide) rfl f66
      have fg : u 14 = .bool false := hf 14 (by decide)
      have ec : ∀ v, (frm A [50, 51, 52, 53, 54, 55, 56, 57, 58, 59, 60, 61, 62, 63, 64, 65, 66, 67, 68, 69, 70, 71, 72, 73, 74] u).eval (.const v) = v := fun _ => rfl
      generalize (frm A [50, 51, 52, 53, 54, 55, 56, 57, 58, 59, 60, 61, 62, 63, 64, 65, 66, 67, 68, 69, 70, 71, 72, 73, 74] u).eval = ev at *
      refine k_val (.bool false) ⟨_, fg, rfl⟩ rfl hG ?_ rfl
      simp [go_sem, ec, e66, hgm0]
    · intro u W hG hf
      have f64 : u 14 = .bool false := hf 14 (by decide)
      have e64 := frm_head (ds := [50, 51, 52, 53, 54, 55, 56, 57, 58, 59, 60, 61, 62, 63, 64, 65, 66, 67, 68, 69, 70, 71, 72, 73, 74]) (u := u) (k := 64) (i := 14) (by rw [hN]; decide) rfl f64
      have f67 : u 17 = .bool false := hf 17 (by decide)
      have e67 := frm_head (ds := [50, 51, 52, 53, 54, 55, 56, 57, 58, 59, 60, 61, 62, 63, 64, 65, 66, 67, 68, 69, 70, 71, 72, 73, 74]) (u := u) (k := 67) (i := 17) (by rw [hN]; decide) rfl f67
      generalize (frm A [50, 51, 52, 53, 54, 55, 56, 57, 58, 59, 60, 61, 62, 63, 64, 65, 66, 67, 68, 69, 70, 71, 72, 73, 74] u).eval = ev at *
      refine k_val (.bool false) rfl rfl hG ?_ rfl
      simp [go_sem, e64, e67]
    · intro u W hG hf
      have f68 : u 18 = .bool false := hf 18 (by decide)
      have e68 := frm_head (ds := [50, 51, 52, 53, 54, 55, 56, 57, 58, 59, 60, 61, 62, 63, 64, 65, 66, 67, 68, 69, 70, 71, 72, 73, 74]) (u := u) (k := 68) (i := 18) (by rw [hN]; decide) rfl f68
      generalize (frm A [50, 51, 52, 53, 54, 55, 56, 57, 58, 59, 60, 61, 62, 63, 64, 65, 66, 67, 68, 69, 70, 71, 72, 73, 74] u).eval = ev at *
      refine k_val (.bool false) rfl rfl hG ?_ rfl
      simp [go_sem, e68]
    · intro u W hG hf
      have e10 := frm_base (ds := [50, 51, 52, 53, 54, 55, 56, 57, 58, 59, 60, 61, 62, 63, 64, 65, 66, 67, 68, 69, 70, 71, 72, 73, 74]) (u := u) (k := 10) (by rw [hN]; decide) rfl q10
      have fg : u 19 = .bool false := hf 19 (by decide)
      generalize (frm A [50, 51, 52, 53, 54, 55, 56, 57, 58, 59, 60, 61, 62, 63, 64, 65, 66, 67, 68, 69, 70, 71, 72, 73, 74] u).eval = ev at *
      have hx := X4.later hG
      have y0 := hx.cel 0
      have y1 := hx.cel 1
      simp at y0 y1
      refine k_val (.agg #[.bool (neg (m)), .string (mag (m))]) ⟨_, fg, rfl⟩ rfl hG ?_ rfl
      simp [go_sem, e10, y0, y1]
    · intro u W hG hf
      have e12 := frm_base (ds := [50, 51, 52, 53, 54, 55, 56, 57, 58, 59, 60, 61, 62, 63, 64, 65, 66, 67, 68, 69, 70, 71, 72, 73, 74]) (u := u) (k := 12) (by rw [hN]; decide) rfl q12
      have fg : u 19 = .bool false := hf 19 (by decide)
      generalize (frm A [50, 51, 52, 53, 54, 55, 56, 57, 58, 59, 60, 61, 62, 63, 64, 65, 66, 67, 68, 69, 70, 71, 72, 73, 74] u).eval = ev at *
      have hx := X5.later hG
      have y0 := hx.cel 0
      have y1 := hx.cel 1
      simp at y0 y1
      refine k_val (.agg #[.bool false, .string s2]) ⟨_, fg, rfl⟩ rfl hG ?_ rfl
      simp [go_sem, e12, y0, y1]
    · intro u W hG hf
      have f70 : u 20 = .agg #[.bool (neg (m)), .string (mag (m))] := hf 20 (by decide)
      have e70 := frm_head (ds := [50, 51, 52, 53, 54, 55, 56, 57, 58, 59, 60, 61, 62, 63, 64, 65, 66, 67, 68, 69, 70, 71, 72, 73, 74]) (u := u) (k := 70) (i := 20) (by rw [hN]; decide) rfl f70
      have f71 : u 21 = .agg #[.bool false, .string s2] := hf 21 (by decide)
      have e71 := frm_head (ds := [50, 51, 52, 53, 54, 55, 56, 57, 58, 59, 60, 61, 62, 63, 64, 65, 66, 67, 68, 69, 70, 71, 72, 73, 74]) (u := u) (k := 71) (i := 21) (by rw [hN]; decide) rfl f71
      have fg : u 19 = .bool false := hf 19 (by decide)
      have ef : ∀ f, (frm A [50, 51, 52, 53, 54, 55, 56, 57, 58, 59, 60, 61, 62, 63, 64, 65, 66, 67, 68, 69, 70, 71, 72, 73, 74] u).eval (.func f) = .func (.func f) #[] #[] := fun _ => rfl
      generalize (frm A [50, 51, 52, 53, 54, 55, 56, 57, 58, 59, 60, 61, 62, 63, 64, 65, 66, 67, 68, 69, 70, 71, 72, 73, 74] u).eval = ev at *
      exact k_call _ _ ⟨_, fg, rfl⟩ rfl (by simp [go_sem, ef, e70, e71]) (wCmpN nM nC (hcs)) (fun w' hb => nxt hG hb) (fun _ _ => rfl)
    · intro u W hG hf
      have f72 : u 22 = .int .i64 (cs) := hf 22 (by decide)
      have e72 := frm_head (ds := [50, 51, 52, 53, 54, 55, 56, 57, 58, 59, 60, 61, 62, 63, 64, 65, 66, 67, 68, 69, 70, 71, 72, 73, 74]) (u := u) (k := 72) (i := 22) (by rw [hN]; decide) rfl f72
      have fg : u 19 = .bool false := hf 19 (by decide)
      have ec : ∀ v, (frm A [50, 51, 52, 53, 54, 55, 56, 57, 58, 59, 60, 61, 62, 63, 64, 65, 66, 67, 68, 69, 70, 71, 72, 73, 74] u).eval (.const v) = v := fun _ => rfl
      generalize (frm A [50, 51, 52, 53, 54, 55, 56, 57, 58, 59, 60, 61, 62, 63, 64, 65, 66, 67, 68, 69, 70, 71, 72, 73, 74] u).eval = ev at *
      refine k_val (.bool false) ⟨_, fg, rfl⟩ rfl hG ?_ rfl
      simp [go_sem, ec, e72, hcs0]
    · intro u W hG hf
      have f69 : u 19 = .bool false := hf 19 (by decide)
      have e69 := frm_head (ds := [50, 51, 52, 53, 54, 55, 56, 57, 58, 59, 60, 61, 62, 63, 64, 65, 66, 67, 68, 69, 70, 71, 72, 73, 74]) (u := u) (k := 69) (i := 19) (by rw [hN]; decide) rfl f69
      have f73 : u 23 = .bool false := hf 23 (by decide)
      have e73 := frm_head (ds := [50, 51, 52, 53, 54, 55, 56, 57, 58, 59, 60, 61, 62, 63, 64, 65, 66, 67, 68, 69, 70, 71, 72, 73, 74]) (u := u) (k := 73) (i := 23) (by rw [hN]; decide) rfl f73
      generalize (frm A [50, 51, 52, 53, 54, 55, 56, 57, 58, 59, 60, 61, 62, 63, 64, 65, 66, 67, 68, 69, 70, 71, 72, 73, 74] u).eval = ev at *
      refine k_val (.bool false) rfl rfl hG ?_ rfl
      simp [go_sem, e69, e73]
  case hlate =>
    intro A _
    exact ⟨trivial, trivial, trivial, trivial, trivial, trivial, trivial, trivial, trivial, trivial, trivial, trivial, trivial, trivial, trivial, trivial, trivial, trivial, trivial, trivial, trivial, trivial, trivial, trivial, trivial, trivial⟩
  case htail =>
    intro u w7 hG hP _
    have f74 : u 24 = .bool false := hP 24 (by decide)
    simp only [putAll, Act.put, List.setIfInBounds_toArray, List.set_cons_zero, List.set_cons_succ, List.length_cons, List.length_nil, Nat.reduceAdd, List.drop_succ_cons, List.drop_zero, f74]
    replace hB := nxt hB hG
    replace X1 := X1.later hG
    replace X2 := X2.later hG
    have HK := Lib.hid (And.intro X1 (And.intro X2 hB))
    clear X1 X2 X3 X4 X5 hB f74 hP hG nA nB nC nQ nM nYQ e1 hgm hgm0 hcs hcs0
    go_upto_region 11 with (fail)
    obtain ⟨X1, X2, hB⟩ := HK.out
    obtain ⟨nA, nB, nO, nPk, hpk, hpk0, hqk, hrk, hsh, hyi, hy5, hyp, hmul, nYi, nY5, hwk, hw5, hk0, hk, hi0, hi⟩ := NK.out
    have l1 := X1.lt
    have l2 := X2.lt
    refine wp_region_know [82, 83, 84, 85, 86, 81, 87, 88, 89, 15, 16] (fun W => Below w7.heap.size w7 W) (kAt [eqK (.agg #[.bool a1, .string s1]), eqK (.agg #[.bool (neg (1)), .string (mag (1))]), eqK (.int .i64 (k)), eqK (.agg #[.bool (neg (pk)), .string (mag (pk))]), eqK (.tuple #[.agg #[.bool (neg (qk)), .string (mag (qk))], .agg #[.bool (neg (rk)), .string (mag (rk))], .bool true]), eqK (.tuple #[.agg #[.bool (neg (qk)), .string (mag (qk))], .agg #[.bool (neg (rk)), .string (mag (rk))], .bool true]), eqK (.agg #[.bool (neg (qk)), .string (mag (qk))]), eqK (.agg #[.bool (neg (rk)), .string (mag (rk))]), eqK (.bool true), ptrK w7.heap.size 26 #[.bool false, .string ⟨#[]⟩], ptrK w7.heap.size 26 #[.bool false, .string ⟨#[]⟩]])
      (fun i => !(i == 7 || i == 8)) (fun i => i == 9 || i == 10) (by kernel_rfl) (by kernel_rfl) (fun _ _ _ _ _ h => h) (by kernel_rfl) (by kernel_rfl) 116 rfl (by kernel_rfl) (by kernel_rfl) ?hG (fun i v w w' hi => kAt_stab (by exact ⟨stab_eq _, stab_eq _, stab_eq _, stab_eq _, stab_eq _, stab_eq _, stab_eq _, stab_eq _, stab_eq _, stab_ptr _ _ _, stab_ptr _ _ _, trivial⟩) _ i v w w' hi) (fun i v w hi hf h => kAt_fresh (k := 0) (fr := fun i => i == 9 || i == 10) (by exact ⟨fun h => absurd h (by decide), fun h => absurd h (by decide), fun h => absurd h (by decide), fun h => absurd h (by decide), fun h => absurd h (by decide), fun h => absurd h (by decide), fun h => absurd h (by decide), fun h => absurd h (by decide), fun h => absurd h (by decide), fun _ => fresh_ptr, fun _ => fresh_ptr, trivial⟩) i v w hi (by rw [Nat.zero_add]; exact hf) h) ?hop ?hlate ?htail
    case hG => exact (Below.refl _ _).drew
    case hop =>
      intro A hA
      have hN : A.tmps.size = 116 := by rw [hA]; rfl
      have q4 : A.tmps.getD 4 undef = .pointer (some ⟨w.heap.size, 0, none⟩) := by rw [hA]; rfl
      have q13 : A.tmps.getD 13 undef = .int .i64 (k) := by rw [hA]; rfl
      clear hA
      refine ⟨?_, ?_, ?_, ?_, ?_, ?_, ?_, ?_, ?_, ?_, ?_, trivial⟩
      · intro u W hG hf
        have e4 := frm_base (ds := [82, 83, 84, 85, 86, 81, 87, 88, 89, 15, 16]) (u := u) (k := 4) (by rw [hN]; decide) rfl q4
        generalize (frm A [82, 83, 84, 85, 86, 81, 87, 88, 89, 15, 16] u).eval = ev at *
        have hx := X1.later hG
        have y0 := hx.cel 0
        have y1 := hx.cel 1
        simp at y0 y1
        refine k_val (.agg #[.bool a1, .string s1]) rfl rfl hG ?_ rfl
        simp [go_sem, e4, y0, y1]
      · intro u W hG hf
        have ec : ∀ v, (frm A [82, 83, 84, 85, 86, 81, 87, 88, 89, 15, 16] u).eval (.const v) = v := fun _ => rfl
        have ef : ∀ f, (frm A [82, 83, 84, 85, 86, 81, 87, 88, 89, 15, 16] u).eval (.func f) = .func (.func f) #[] #[] := fun _ => rfl
        generalize (frm A [82, 83, 84, 85, 86, 81, 87, 88, 89, 15, 16] u).eval = ev at *
        exact k_call _ _ rfl rfl (by simp [go_sem, ec, ef]) (kO.out W) (fun w' hb => nxt hG hb) (fun _ _ => rfl)
      · intro u W hG hf
        have e13 := frm_base (ds := [82, 83, 84, 85, 86, 81, 87, 88, 89, 15, 16]) (u := u) (k := 13) (by rw [hN]; decide) rfl q13
        generalize (frm A [82, 83, 84, 85, 86, 81, 87, 88, 89, 15, 16] u).eval = ev at *
        refine k_val (.int .i64 (k)) rfl rfl hG ?_ rfl
        simp [go_sem, e13]
      · intro u W hG hf
        have f83 : u 1 = .agg #[.bool (neg (1)), .string (mag (1))] := hf 1 (by decide)
        have e83 := frm_head (ds := [82, 83, 84, 85, 86, 81, 87, 88, 89, 15, 16]) (u := u) (k := 83) (i := 1) (by rw [hN]; decide) rfl f83
        have f84 : u 2 = .int .i64 (k) := hf 2 (by decide)
        have e84 := frm_head (ds := [82, 83, 84, 85, 86, 81, 87, 88, 89, 15, 16]) (u := u) (k := 84) (i := 2) (by rw [hN]; decide) rfl f84
        have ef : ∀ f, (frm A [82, 83, 84, 85, 86, 81, 87, 88, 89, 15, 16] u).eval (.func f) = .func (.func f) #[] #[] := fun _ => rfl
        generalize (frm A [82, 83, 84, 85, 86, 81, 87, 88, 89, 15, 16] u).eval = ev at *
        exact k_call _ _ rfl rfl (by simp [go_sem, ef, e83, e84]) (wShiftN nO (by omega) (by omega) hpk (tab_keep HT.out (nxt hB hG))) (fun w' hb => nxt hG hb) (fun _ _ => rfl)
      · intro u W hG hf
        have f82 : u 0 = .agg #[.bool a1, .string s1] := hf 0 (by decide)
        have e82 := frm_head (ds := [82, 83, 84, 85, 86, 81, 87, 88, 89, 15, 16]) (u := u) (k := 82) (i := 0) (by rw [hN]; decide) rfl f82
        have f85 : u 3 = .agg #[.bool (neg (pk)), .string (mag (pk))] := hf 3 (by decide)
        have e85 := frm_head (ds := [82, 83, 84, 85, 86, 81, 87, 88, 89, 15, 16]) (u := u) (k := 85) (i := 3) (by rw [hN]; decide) rfl f85
        have ef : ∀ f, (frm A [82, 83, 84, 85, 86, 81, 87, 88, 89, 15, 16] u).eval (.func f) = .func (.func f) #[] #[] := fun _ => rfl
        generalize (frm A [82, 83, 84, 85, 86, 81, 87, 88, 89, 15, 16] u).eval = ev at *
        exact k_call _ _ rfl rfl (by simp [go_sem, ef, e82, e85]) (wDivN nA nPk hpk0 hqk hrk) (fun w' hb => nxt hG hb) (fun _ _ => rfl)
      · intro u W hG hf
        have f86 : u 4 = .tuple #[.agg #[.bool (neg (qk)), .string (mag (qk))], .agg #[.bool (neg (rk)), .string (mag (rk))], .bool true] := hf 4 (by decide)
        have e86 := frm_head (ds := [82, 83, 84, 85, 86, 81, 87, 88, 89, 15, 16]) (u := u) (k := 86) (i := 4) (by rw [hN]; decide) rfl f86
        generalize (frm A [82, 83, 84, 85, 86, 81, 87, 88, 89, 15, 16] u).eval = ev at *
        refine k_val (.tuple #[.agg #[.bool (neg (qk)), .string (mag (qk))], .agg #[.bool (neg (rk)), .string (mag (rk))], .bool true]) rfl rfl hG ?_ rfl
        simp [go_sem, e86]
      · intro u W hG hf
        have f81 : u 5 = .tuple #[.agg #[.bool (neg (qk)), .string (mag (qk))], .agg #[.bool (neg (rk)), .string (mag (rk))], .bool true] := hf 5 (by decide)
        have e81 := frm_head (ds := [82, 83, 84, 85, 86, 81, 87, 88, 89, 15, 16]) (u := u) (k := 81) (i := 5) (by rw [hN]; decide) rfl f81
        generalize (frm A [82, 83, 84, 85, 86, 81, 87, 88, 89, 15, 16] u).eval = ev at *
        refine k_val (.agg #[.bool (neg (qk)), .string (mag (qk))]) rfl rfl hG ?_ rfl
        simp [go_sem, e81]
      · intro u W hG hf
        have f81 : u 5 = .tuple #[.agg #[.bool (neg (qk)), .string (mag (qk))], .agg #[.bool (neg (rk)), .string (mag (rk))], .bool true] := hf 5 (by decide)
        have e81 := frm_head (ds := [82, 83, 84, 85, 86, 81, 87, 88, 89, 15, 16]) (u := u) (k := 81) (i := 5) (by rw [hN]; decide) rfl f81
        generalize (frm A [82, 83, 84, 85, 86, 81, 87, 88, 89, 15, 16] u).eval = ev at *
        refine k_val (.agg #[.bool (neg (rk)), .string (mag (rk))]) rfl rfl hG ?_ rfl
        simp [go_sem, e81]
      · intro u W hG hf
        have f81 : u 5 = .tuple #[.agg #[.bool (neg (qk)), .string (mag (qk))], .agg #[.bool (neg (rk)), .string (mag (rk))], .bool true] := hf 5 (by decide)
        have e81 := frm_head (ds := [82, 83, 84, 85, 86, 81, 87, 88, 89, 15, 16]) (u := u) (k := 81) (i := 5) (by rw [hN]; decide) rfl f81
        generalize (frm A [82, 83, 84, 85, 86, 81, 87, 88, 89, 15, 16] u).eval = ev at *
        refine k_val (.bool true) rfl rfl hG ?_ rfl
        simp [go_sem, e81]
      · intro u W hG hf
        generalize (frm A [82, 83, 84, 85, 86, 81, 87, 88, 89, 15, 16] u).eval = ev at *
        refine k_new (.pointer (some ⟨W.heap.size, 0, none⟩)) (.cells #[.bool false, .string ⟨#[]⟩] 26) rfl ?_ (nxtA hG _) ⟨_, rfl, below_le hG, Bx.new _ _ _⟩ rfl
        simp [go_sem]
      · intro u W hG hf
        generalize (frm A [82, 83, 84, 85, 86, 81, 87, 88, 89, 15, 16] u).eval = ev at *
        refine k_new (.pointer (some ⟨W.heap.size, 0, none⟩)) (.cells #[.bool false, .string ⟨#[]⟩] 26) rfl ?_ (nxtA hG _) ⟨_, rfl, below_le hG, Bx.new _ _ _⟩ rfl
        simp [go_sem]
    case hlate =>
      intro A hA
      have hN : A.tmps.size = 116 := by rw [hA]; rfl
      clear hA
      refine ⟨trivial, trivial, trivial, trivial, trivial, trivial, trivial, ⟨rfl, ?_⟩, ⟨rfl, ?_⟩, trivial, trivial, trivial⟩
      · intro u W hf
        have f81 : u 5 = .tuple #[.agg #[.bool (neg (qk)), .string (mag (qk))], .agg #[.bool (neg (rk)), .string (mag (rk))], .bool true] := hf 5 (by decide)
        have e81 := frm_head (a := A) (ds := [82, 83, 84, 85, 86, 81, 87, 88, 89, 15, 16]) (u := u) (k := 81) (i := 5) (by rw [hN]; decide) rfl f81
        generalize (frm A [82, 83, 84, 85, 86, 81, 87, 88, 89, 15, 16] u).eval = ev at *
        refine ⟨.agg #[.bool (neg (rk)), .string (mag (rk))], rfl, fun w => ?_, rfl⟩
        simp [go_sem, e81]
      · intro u W hf
        have f81 : u 5 = .tuple #[.agg #[.bool (neg (qk)), .string (mag (qk))], .agg #[.bool (neg (rk)), .string (mag (rk))], .bool true] := hf 5 (by decide)
        have e81 := frm_head (a := A) (ds := [82, 83, 84, 85, 86, 81, 87, 88, 89, 15, 16]) (u := u) (k := 81) (i := 5) (by rw [hN]; decide) rfl f81
        generalize (frm A [82, 83, 84, 85, 86, 81, 87, 88, 89, 15, 16] u).eval = ev at *
        refine ⟨.bool true, rfl, fun w => ?_, rfl⟩
        simp [go_sem, e81]
    case htail =>
      intro u w' hG hP hD
      have f87 : u 6 = .agg #[.bool (neg (qk)), .string (mag (qk))] := hP 6 (by decide)
      have f88 : u 7 = .agg #[.bool (neg (rk)), .string (mag (rk))] := hP 7 (by decide)
      have f89 : u 8 = .bool true := hP 8 (by decide)
      obtain ⟨g15, f15, hb15, hx15⟩ : ptrK w7.heap.size 26 #[.bool false, .string ⟨#[]⟩] (u 9) w' := hP 9 (by decide)
      obtain ⟨g16, f16, hb16, hx16⟩ : ptrK w7.heap.size 26 #[.bool false, .string ⟨#[]⟩] (u 10) w' := hP 10 (by decide)
      have hne : g15 ≠ g16 := fun e => hD 9 10 (by decide) (by decide) rfl rfl (by decide) (by rw [f15, f16, e])
      simp only [putAll, Act.put, List.setIfInBounds_toArray, List.set_cons_zero, List.set_cons_succ, List.length_cons, List.length_nil, Nat.reduceAdd, List.drop_succ_cons, List.drop_zero, f87, f88, f89, f15, f16]
      have Y16 := Bx.far2 (i := 0) (j := 1) hx16 (Ne.symm hne) (.bool (neg (qk))) (.string (mag (qk)))
      have Z15 := Bx.far2 (i := 0) (j := 1) (hx15.set2 (.bool (neg (qk))) (.string (mag (qk)))) hne (.bool (neg (rk))) (.string (mag (rk)))
      have Z1 := Bx.far2 (i := 0) (j := 1) (Bx.far2 (i := 0) (j := 1) (X1.later hG) (Nat.ne_of_lt (Nat.lt_of_lt_of_le l1 hb15)) (.bool (neg (qk))) (.string (mag (qk)))) (Nat.ne_of_lt (Nat.lt_of_lt_of_le l1 hb16)) (.bool (neg (rk))) (.string (mag (rk)))
      have Z2 := Bx.far2 (i := 0) (j := 1) (Bx.far2 (i := 0) (j := 1) (X2.later hG) (Nat.ne_of_lt (Nat.lt_of_lt_of_le l2 hb15)) (.bool (neg (qk))) (.string (mag (qk)))) (Nat.ne_of_lt (Nat.lt_of_lt_of_le l2 hb16)) (.bool (neg (rk))) (.string (mag (rk)))
      have hB2 := st2 (st2 (nxt hB hG) (Nat.le_trans hB.size hb15) (.bool (neg (qk))) (.string (mag (qk)))) (Nat.le_trans hB.size hb16) (.bool (neg (rk))) (.string (mag (rk)))
      obtain ⟨t1, t2, t3, t4⟩ := Y16.two
      obtain ⟨v1, v2, v3, v4⟩ := hx15.two
      have HZ := Lib.hid (And.intro Z15 (And.intro Z1 (And.intro Z2 hB2)))
      clear f87 f88 f89 f15 f16 hP hD hG hB hb15 hb16 hx15 hx16 hne Y16 Z15 Z1 Z2 hB2 X1 X2 l1 l2 nA nB nO nPk hpk hpk0 hqk hrk hsh hyi hy5 hyp hmul nYi nY5 hwk hw5
      go_upto_region 12 with (fail)
      obtain ⟨Z15, Z1, Z2, hB⟩ := HZ.out
      clear HZ t1 t2 t3 t4 v1 v2 v3 v4
      generalize (((w'.setCell ⟨g15, 0, none⟩ (.bool (neg (qk)))).setCell ⟨g15, 1, none⟩ (.string (mag (qk)))).setCell ⟨g16, 0, none⟩ (.bool (neg (rk)))).setCell ⟨g16, 1, none⟩ (.string (mag (rk))) = w8 at *
      obtain ⟨nA, nB, nO, nPk, hpk, hpk0, hqk, hrk, hsh, hyi, hy5, hyp, hmul, nYi, nY5, hwk, hw5, hk0, hk, hi0, hi⟩ := NK.out
      refine wp_region_know [90, 91, 92, 93, 94, 95, 96, 97, 98, 99, 100, 101, 102, 103, 104, 105, 106, 107, 108, 109, 110, 111, 112, 113, 114, 115, 8] (fun W => Below w8.heap.size w8 W) (kAt [eqK (.bool true), eqK (.bool true), eqK (.agg #[.bool a1, .string s1]), eqK (.int .i64 (k)), eqK (.int .i64 (-k)), eqK (.agg #[.bool (neg (qk)), .string (mag (qk))]), eqK (.agg #[.bool (neg (qk)), .string (mag (qk))]), eqK (.bool true), eqK (.bool true), eqK (.bool true), eqK (.agg #[.bool a2, .string s2]), eqK (.int .i64 (i)), eqK (.agg #[.bool (neg (yi)), .string (mag (yi))]), eqK (.agg #[.bool a2, .string s2]), eqK (.agg #[.bool (neg (y5)), .string (mag (y5))]), sliK w8.heap.size 26 2 #[.bool (neg (yi)), .string (mag (yi)), .bool (neg (y5)), .string (mag (y5))], eqK (.agg #[.bool (neg (yp)), .string (mag (yp))]), eqK (.agg #[.bool a2, .string s2]), eqK (.int .i64 (i)), eqK (.int .i64 (i + 5)), eqK (.agg #[.bool (neg (yp)), .string (mag (yp))]), eqK (.bool true), eqK (.bool true), eqK (.bool true), eqK (.bool true), eqK (.bool true), eqK (.bool true)])
        (fun _ => true) (fun i => i == 15) (by kernel_rfl) (by kernel_rfl) (fun _ _ _ _ _ h => h) (by kernel_rfl) (by kernel_rfl) 116 rfl (by kernel_rfl) (by kernel_rfl) ?hG (fun i v w w' hi => kAt_stab (by exact ⟨stab_eq _, stab_eq _, stab_eq _, stab_eq _, stab_eq _, stab_eq _, stab_eq _, stab_eq _, stab_eq _, stab_eq _, stab_eq _, stab_eq _, stab_eq _, stab_eq _, stab_eq _, stab_sli _ _ _ _, stab_eq _, stab_eq _, stab_eq _, stab_eq _, stab_eq _, stab_eq _, stab_eq _, stab_eq _, stab_eq _, stab_eq _, stab_eq _, trivial⟩) _ i v w w' hi) (fun i v w hi hf h => kAt_fresh (k := 0) (fr := fun i => i == 15) (by exact ⟨fun h => absurd h (by decide), fun h => absurd h (by decide), fun h => absurd h (by decide), fun h => absurd h (by decide), fun h => absurd h (by decide), fun h => absurd h (by decide), fun h => absurd h (by decide), fun h => absurd h (by decide), fun h => absurd h (by decide), fun h => absurd h (by decide), fun h => absurd h (by decide), fun h => absurd h (by decide), fun h => absurd h (by decide), fun h => absurd h (by decide), fun h => absurd h (by decide), fun _ => fresh_sli, fun h => absurd h (by decide), fun h => absurd h (by decide), fun h => absurd h (by decide), fun h => absurd h (by decide), fun h => absurd h (by decide), fun h => absurd h (by decide), fun h => absurd h (by decide), fun h => absurd h (by decide), fun h => absurd h (by decide), fun h => absurd h (by decide), fun h => absurd h (by decide), trivial⟩) i v w hi (by rw [Nat.zero_add]; exact hf) h) ?hop ?hlate ?htail
      case hG => exact (Below.refl _ _).drew
      case hop =>
        intro A hA
        have hN : A.tmps.size = 116 := by rw [hA]; rfl
        have q4 : A.tmps.getD 4 undef = .pointer (some ⟨w.heap.size, 0, none⟩) := by rw [hA]; rfl
        have q5 : A.tmps.getD 5 undef = .pointer (some ⟨w.heap.size + 1, 0, none⟩) := by rw [hA]; rfl
        have q15 : A.tmps.getD 15 undef = .pointer (some ⟨g15, 0, none⟩) := by rw [hA]; rfl
        have q13 : A.tmps.getD 13 undef = .int .i64 (k) := by rw [hA]; rfl
        have q14 : A.tmps.getD 14 undef = .int .i64 (i) := by rw [hA]; rfl
        have q17 : A.tmps.getD 17 undef = .bool true := by rw [hA]; rfl
        clear hA
        refine ⟨?_, ?_, ?_, ?_, ?_, ?_, ?_, ?_, ?_, ?_, ?_, ?_, ?_, ?_, ?_, ?_, ?_, ?_, ?_, ?_, ?_, ?_, ?_, ?_, ?_, ?_, ?_, trivial⟩
        · intro u W hG hf
          have e17 := frm_base (ds := [90, 91, 92, 93, 94, 95, 96, 97, 98, 99, 100, 101, 102, 103, 104, 105, 106, 107, 108, 109, 110, 111, 112, 113, 114, 115, 8]) (u := u) (k := 17) (by rw [hN]; decide) rfl q17
          generalize (frm A [90, 91, 92, 93, 94, 95, 96, 97, 98, 99, 100, 101, 102, 103, 104, 105, 106, 107, 108, 109, 110, 111, 112, 113, 114, 115, 8] u).eval = ev at *
          refine k_val (.bool true) rfl rfl hG ?_ rfl
          simp [go_sem, e17]
        · intro u W hG hf
          have f90 : u 0 = .bool true := hf 0 (by decide)
          have e90 := frm_head (ds := [90, 91, 92, 93, 94, 95, 96, 97, 98, 99, 100, 101, 102, 103, 104, 105, 106, 107, 108, 109, 110, 111, 112, 113, 114, 115, 8]) (u := u) (k := 90) (i := 0) (by rw [hN]; decide) rfl f90
          generalize (frm A [90, 91, 92, 93, 94, 95, 96, 97, 98, 99, 100, 101, 102, 103, 104, 105, 106, 107, 108, 109, 110, 111, 112, 113, 114, 115, 8] u).eval = ev at *
          refine k_val (.bool true) rfl rfl hG ?_ rfl
          simp [go_sem, e90]
        · intro u W hG hf
          have e4 := frm_base (ds := [90, 91, 92, 93, 94, 95, 96, 97, 98, 99, 100, 101, 102, 103, 104, 105, 106, 107, 108, 109, 110, 111, 112, 113, 114, 115, 8]) (u := u) (k := 4) (by rw [hN]; decide) rfl q4
          have fg : u 1 = .bool true := hf 1 (by decide)
          generalize (frm A [90, 91, 92, 93, 94, 95, 96, 97, 98, 99, 100, 101, 102, 103, 104, 105, 106, 107, 108, 109, 110, 111, 112, 113, 114, 115, 8] u).eval = ev at *
          have hx := Z1.later hG
          have y0 := hx.cel 0
          have y1 := hx.cel 1
          simp at y0 y1
          refine k_val (.agg #[.bool a1, .string s1]) ⟨_, fg, rfl⟩ rfl hG ?_ rfl
          simp [go_sem, e4, y0, y1]
        · intro u W hG hf
          have e13 := frm_base (ds := [90, 91, 92, 93, 94, 95, 96, 97, 98, 99, 100, 101, 102, 103, 104, 105, 106, 107, 108, 109, 110, 111, 112, 113, 114, 115, 8]) (u := u) (k := 13) (by rw [hN]; decide) rfl q13
          have fg : u 1 = .bool true := hf 1 (by decide)
          generalize (frm A [90, 91, 92, 93, 94, 95, 96, 97, 98, 99, 100, 101, 102, 103, 104, 105, 106, 107, 108, 109, 110, 111, 112, 113, 114, 115, 8] u).eval = ev at *
          refine k_val (.int .i64 (k)) ⟨_, fg, rfl⟩ rfl hG ?_ rfl
          simp [go_sem, e13]
        · intro u W hG hf
          have f93 : u 3 = .int .i64 (k) := hf 3 (by decide)
          have e93 := frm_head (ds := [90, 91, 92, 93, 94, 95, 96, 97, 98, 99, 100, 101, 102, 103, 104, 105, 106, 107, 108, 109, 110, 111, 112, 113, 114, 115, 8]) (u := u) (k := 93) (i := 3) (by rw [hN]; decide) rfl f93
          have fg : u 1 = .bool true := hf 1 (by decide)
          generalize (frm A [90, 91, 92, 93, 94, 95, 96, 97, 98, 99, 100, 101, 102, 103, 104, 105, 106, 107, 108, 109, 110, 111, 112, 113, 114, 115, 8] u).eval = ev at *
          refine k_val (.int .i64 (-k)) ⟨_, fg, rfl⟩ rfl hG ?_ rfl
          simp [go_sem, e93, hwk]
        · intro u W hG hf
          have f92 : u 2 = .agg #[.bool a1, .string s1] := hf 2 (by decide)
          have e92 := frm_head (ds := [90, 91, 92, 93, 94, 95, 96, 97, 98, 99, 100, 101, 102, 103, 104, 105, 106, 107, 108, 109, 110, 111, 112, 113, 114, 115, 8]) (u := u) (k := 92) (i := 2) (by rw [hN]; decide) rfl f92
          have f94 : u 4 = .int .i64 (-k) := hf 4 (by decide)
          have e94 := frm_head (ds := [90, 91, 92, 93, 94, 95, 96, 97, 98, 99, 100, 101, 102, 103, 104, 105, 106, 107, 108, 109, 110, 111, 112, 113, 114, 115, 8]) (u := u) (k := 94) (i := 4) (by rw [hN]; decide) rfl f94
          have fg : u 1 = .bool true := hf 1 (by decide)
          have ef : ∀ f, (frm A [90, 91, 92, 93, 94, 95, 96, 97, 98, 99, 100, 101, 102, 103, 104, 105, 106, 107, 108, 109, 110, 111, 112, 113, 114, 115, 8] u).eval (.func f) = .func (.func f) #[] #[] := fun _ => rfl
          generalize (frm A [90, 91, 92, 93, 94, 95, 96, 97, 98, 99, 100, 101, 102, 103, 104, 105, 106, 107, 108, 109, 110, 111, 112, 113, 114, 115, 8] u).eval = ev at *
          exact k_call _ _ ⟨_, fg, rfl⟩ rfl (by simp [go_sem, ef, e92, e94]) (wShiftN nA (by omega) (by omega) hsh (tab_keep HT.out (nxt hB hG))) (fun w' hb => nxt hG hb) (fun _ _ => rfl)
        · intro u W hG hf
          have e15 := frm_base (ds := [90, 91, 92, 93, 94, 95, 96, 97, 98, 99, 100, 101, 102, 103, 104, 105, 106, 107, 108, 109, 110, 111, 112, 113, 114, 115, 8]) (u := u) (k := 15) (by rw [hN]; decide) rfl q15
          have fg : u 1 = .bool true := hf 1 (by decide)
          generalize (frm A [90, 91, 92, 93, 94, 95, 96, 97, 98, 99, 100, 101, 102, 103, 104, 105, 106, 107, 108, 109, 110, 111, 112, 113, 114, 115, 8] u).eval = ev at *
          have hx := Z15.later hG
          have y0 := hx.cel 0
          have y1 := hx.cel 1
          simp at y0 y1
          refine k_val (.agg #[.bool (neg (qk)), .string (mag (qk))]) ⟨_, fg, rfl⟩ rfl hG ?_ rfl
          simp [go_sem, e15, y0, y1]
        · intro u W hG hf
          have f95 : u 5 = .agg #[.bool (neg (qk)), .string (mag (qk))] := hf 5 (by decide)
          have e95 := frm_head (ds := [90, 91, 92, 93, 94, 95, 96, 97, 98, 99, 100, 101, 102, 103, 104, 105, 106, 107, 108, 109, 110, 111, 112, 113, 114, 115, 8]) (u := u) (k := 95) (i := 5) (by rw [hN]; decide) rfl f95
          have f96 : u 6 = .agg #[.bool (neg (qk)), .string (mag (qk))] := hf 6 (by decide)
          have e96 := frm_head (ds := [90, 91, 92, 93, 94, 95, 96, 97, 98, 99, 100, 101, 102, 103, 104, 105, 106, 107, 108, 109, 110, 111, 112, 113, 114, 115, 8]) (u := u) (k := 96) (i := 6) (by rw [hN]; decide) rfl f96
          have fg : u 1 = .bool true := hf 1 (by decide)
          generalize (frm A [90, 91, 92, 93, 94, 95, 96, 97, 98, 99, 100, 101, 102, 103, 104, 105, 106, 107, 108, 109, 110, 111, 112, 113, 114, 115, 8] u).eval = ev at *
          refine k_val (.bool true) ⟨_, fg, rfl⟩ rfl hG ?_ rfl
          simp [go_sem, e95, e96]
        · intro u W hG hf
          have f91 : u 1 = .bool true := hf 1 (by decide)
          have e91 := frm_head (ds := [90, 91, 92, 93, 94, 95, 96, 97, 98, 99, 100, 101, 102, 103, 104, 105, 106, 107, 108, 109, 110, 111, 112, 113, 114, 115, 8]) (u := u) (k := 91) (i := 1) (by rw [hN]; decide) rfl f91
          have f97 : u 7 = .bool true := hf 7 (by decide)
          have e97 := frm_head (ds := [90, 91, 92, 93, 94, 95, 96, 97, 98, 99, 100, 101, 102, 103, 104, 105, 106, 107, 108, 109, 110, 111, 112, 113, 114, 115, 8]) (u := u) (k := 97) (i := 7) (by rw [hN]; decide) rfl f97
          generalize (frm A [90, 91, 92, 93, 94, 95, 96, 97, 98, 99, 100, 101, 102, 103, 104, 105, 106, 107, 108, 109, 110, 111, 112, 113, 114, 115, 8] u).eval = ev at *
          refine k_val (.bool true) rfl rfl hG ?_ rfl
          simp [go_sem, e91, e97]
        · intro u W hG hf
          have f98 : u 8 = .bool true := hf 8 (by decide)
          have e98 := frm_head (ds := [90, 91, 92, 93, 94, 95, 96, 97, 98, 99, 100, 101, 102, 103, 104, 105, 106, 107, 108, 109, 110, 111, 112, 113, 114, 115, 8]) (u := u) (k := 98) (i := 8) (by rw [hN]; decide) rfl f98
          generalize (frm A [90, 91, 92, 93, 94, 95, 96, 97, 98, 99, 100, 101, 102, 103, 104, 105, 106, 107, 108, 109, 110, 111, 112, 113, 114, 115, 8] u).eval = ev at *
          refine k_val (.bool true) rfl rfl hG ?_ rfl
          simp [go_sem, e98]
        · intro u W hG hf
          have e5 := frm_base (ds := [90, 91, 92, 93, 94, 95, 96, 97, 98, 99, 100, 101, 102, 103, 104, 105, 106, 107, 108, 109, 110, 111, 112, 113, 114, 115, 8]) (u := u) (k := 5) (by rw [hN]; decide) rfl q5
          have fg : u 9 = .bool true := hf 9 (by decide)
          generalize (frm A [90, 91, 92, 93, 94, 95, 96, 97, 98, 99, 100, 101, 102, 103, 104, 105, 106, 107, 108, 109, 110, 111, 112, 113, 114, 115, 8] u).eval = ev at *
          have hx := Z2.later hG
          have y0 := hx.cel 0
          have y1 := hx.cel 1
          simp at y0 y1
          refine k_val (.agg #[.bool a2, .string s2]) ⟨_, fg, rfl⟩ rfl hG ?_ rfl
          simp [go_sem, e5, y0, y1]
        · intro u W hG hf
          have e14 := frm_base (ds := [90, 91, 92, 93, 94, 95, 96, 97, 98, 99, 100, 101, 102, 103, 104, 105, 106, 107, 108, 109, 110, 111, 112, 113, 114, 115, 8]) (u := u) (k := 14) (by rw [hN]; decide) rfl q14
          have fg : u 9 = .bool true := hf 9 (by decide)
          generalize (frm A [90, 91, 92, 93, 94, 95, 96, 97, 98, 99, 100, 101, 102, 103, 104, 105, 106, 107, 108, 109, 110, 111, 112, 113, 114, 115, 8] u).eval = ev at *
          refine k_val (.int .i64 (i)) ⟨_, fg, rfl⟩ rfl hG ?_ rfl
          simp [go_sem, e14]
        · intro u W hG hf
          have f100 : u 10 = .agg #[.bool a2, .string s2] := hf 10 (by decide)
          have e100 := frm_head (ds := [90, 91, 92, 93, 94, 95, 96, 97, 98, 99, 100, 101, 102, 103, 104, 105, 106, 107, 108, 109, 110, 111, 112, 113, 114, 115, 8]) (u := u) (k := 100) (i := 10) (by rw [hN]; decide) rfl f100
          have f101 : u 11 = .int .i64 (i) := hf 11 (by decide)
          have e101 := frm_head (ds := [90, 91, 92, 93, 94, 95, 96, 97, 98, 99, 100, 101, 102, 103, 104, 105, 106, 107, 108, 109, 110, 111, 112, 113, 114, 115, 8]) (u := u) (k := 101) (i := 11) (by rw [hN]; decide) rfl f101
          have fg : u 9 = .bool true := hf 9 (by decide)
          have ef : ∀ f, (frm A [90, 91, 92, 93, 94, 95, 96, 97, 98, 99, 100, 101, 102, 103, 104, 105, 106, 107, 108, 109, 110, 111, 112, 113, 114, 115, 8] u).eval (.func f) = .func (.func f) #[] #[] := fun _ => rfl
          generalize (frm A [90, 91, 92, 93, 94, 95, 96, 97, 98, 99, 100, 101, 102, 103, 104, 105, 106, 107, 108, 109, 110, 111, 112, 113, 114, 115, 8] u).eval = ev at *
          exact k_call _ _ ⟨_, fg, rfl⟩ rfl (by simp [go_sem, ef, e100, e101]) (wPowN nB (by omega) hyi) (fun w' hb => nxt hG hb) (fun _ _ => rfl)
        · intro u W hG hf
          have e5 := frm_base (ds := [90, 91, 92, 93, 94, 95, 96, 97, 98, 99, 100, 101, 102, 103, 104, 105, 106, 107, 108, 109, 110, 111, 112, 113, 114, 115, 8]) (u := u) (k := 5) (by rw [hN]; decide) rfl q5
          have fg : u 9 = .bool true := hf 9 (by decide)
          generalize (frm A [90, 91, 92, 93, 94, 95, 96, 97, 98, 99, 100, 101, 102, 103, 104, 105, 106, 107, 108, 109, 110, 111, 112, 113, 114, 115, 8] u).eval = ev at *
          have hx := Z2.later hG
          have y0 := hx.cel 0
          have y1 := hx.cel 1
          simp at y0 y1
          refine k_val (.agg #[.bool a2, .string s2]) ⟨_, fg, rfl⟩ rfl hG ?_ rfl
          simp [go_sem, e5, y0, y1]
        · intro u W hG hf
          have f103 : u 13 = .agg #[.bool a2, .string s2] := hf 13 (by decide)
          have e103 := frm_head (ds := [90, 91, 92, 93, 94, 95, 96, 97, 98, 99, 100, 101, 102, 103, 104, 105, 106, 107, 108, 109, 110, 111, 112, 113, 114, 115, 8]) (u := u) (k := 103) (i := 13) (by rw [hN]; decide) rfl f103
          have fg : u 9 = .bool true := hf 9 (by decide)
          have ec : ∀ v, (frm A [90, 91, 92, 93, 94, 95, 96, 97, 98, 99, 100, 101, 102, 103, 104, 105, 106, 107, 108, 109, 110, 111, 112, 113, 114, 115, 8] u).eval (.const v) = v := fun _ => rfl
          have ef : ∀ f, (frm A [90, 91, 92, 93, 94, 95, 96, 97, 98, 99, 100, 101, 102, 103, 104, 105, 106, 107, 108, 109, 110, 111, 112, 113, 114, 115, 8] u).eval (.func f) = .func (.func f) #[] #[] := fun _ => rfl
          generalize (frm A [90, 91, 92, 93, 94, 95, 96, 97, 98, 99, 100, 101, 102, 103, 104, 105, 106, 107, 108, 109, 110, 111, 112, 113, 114, 115, 8] u).eval = ev at *
          exact k_call _ _ ⟨_, fg, rfl⟩ rfl (by simp [go_sem, ec, ef, e103]) (wPowN nB (by decide) hy5) (fun w' hb => nxt hG hb) (fun _ _ => rfl)
        · intro u W hG hf
          have f102 : u 12 = .agg #[.bool (neg (yi)), .string (mag (yi))] := hf 12 (by decide)
          have e102 := frm_head (ds := [90, 91, 92, 93, 94, 95, 96, 97, 98, 99, 100, 101, 102, 103, 104, 105, 106, 107, 108, 109, 110, 111, 112, 113, 114, 115, 8]) (u := u) (k := 102) (i := 12) (by rw [hN]; decide) rfl f102
          have f104 : u 14 = .agg #[.bool (neg (y5)), .string (mag (y5))] := hf 14 (by decide)
          have e104 := frm_head (ds := [90, 91, 92, 93, 94, 95, 96, 97, 98, 99, 100, 101, 102, 103, 104, 105, 106, 107, 108, 109, 110, 111, 112, 113, 114, 115, 8]) (u := u) (k := 104) (i := 14) (by rw [hN]; decide) rfl f104
          have fg : u 9 = .bool true := hf 9 (by decide)
          generalize (frm A [90, 91, 92, 93, 94, 95, 96, 97, 98, 99, 100, 101, 102, 103, 104, 105, 106, 107, 108, 109, 110, 111, 112, 113, 114, 115, 8] u).eval = ev at *
          refine k_new (.slice (some ⟨W.heap.size, 0, none⟩) 2 2) (.cells #[.bool (neg (yi)), .string (mag (yi)), .bool (neg (y5)), .string (mag (y5))] 26) ⟨_, fg, rfl⟩ ?_ (nxtA hG _) ⟨_, rfl, below_le hG, Bx.new _ _ _⟩ rfl
          simp [go_sem, e102, e104]
        · intro u W hG hf
          obtain ⟨g105, f105, hb105, hx105⟩ : sliK w8.heap.size 26 2 #[.bool (neg (yi)), .string (mag (yi)), .bool (neg (y5)), .string (mag (y5))] (u 15) W := hf 15 (by decide)
          have e105 := frm_head (ds := [90, 91, 92, 93, 94, 95, 96, 97, 98, 99, 100, 101, 102, 103, 104, 105, 106, 107, 108, 109, 110, 111, 112, 113, 114, 115, 8]) (u := u) (k := 105) (i := 15) (by rw [hN]; decide) rfl f105
          have fg : u 9 = .bool true := hf 9 (by decide)
          have ef : ∀ f, (frm A [90, 91, 92, 93, 94, 95, 96, 97, 98, 99, 100, 101, 102, 103, 104, 105, 106, 107, 108, 109, 110, 111, 112, 113, 114, 115, 8] u).eval (.func f) = .func (.func f) #[] #[] := fun _ => rfl
          generalize (frm A [90, 91, 92, 93, 94, 95, 96, 97, 98, 99, 100, 101, 102, 103, 104, 105, 106, 107, 108, 109, 110, 111, 112, 113, 114, 115, 8] u).eval = ev at *
          exact k_call _ _ ⟨_, fg, rfl⟩ rfl (by simp [go_sem, ef, e105]) (wMul2N nYi nY5 (hmul) hx105) (fun w' hb => nxt hG hb) (fun _ _ => rfl)
        · intro u W hG hf
          have e5 := frm_base (ds := [90, 91, 92, 93, 94, 95, 96, 97, 98, 99, 100, 101, 102, 103, 104, 105, 106, 107, 108, 109, 110, 111, 112, 113, 114, 115, 8]) (u := u) (k := 5) (by rw [hN]; decide) rfl q5
          have fg : u 9 = .bool true := hf 9 (by decide)
          generalize (frm A [90, 91, 92, 93, 94, 95, 96, 97, 98, 99, 100, 101, 102, 103, 104, 105, 106, 107, 108, 109, 110, 111, 112, 113, 114, 115, 8] u).eval = ev at *
          have hx := Z2.later hG
          have y0 := hx.cel 0
          have y1 := hx.cel 1
          simp at y0 y1
          refine k_val (.agg #[.bool a2, .string s2]) ⟨_, fg, rfl⟩ rfl hG ?_ rfl
          simp [go_sem, e5, y0, y1]
        · intro u W hG hf
          have e14 := frm_base (ds := [90, 91, 92, 93, 94, 95, 96, 97, 98, 99, 100, 101, 102, 103, 104, 105, 106, 107, 108, 109, 110, 111, 112, 113, 114, 115, 8]) (u := u) (k := 14) (by rw [hN]; decide) rfl q14
          have fg : u 9 = .bool true := hf 9 (by decide)
          generalize (frm A [90, 91, 92, 93, 94, 95, 96, 97, 98, 99, 100, 101, 102, 103, 104, 105, 106, 107, 108, 109, 110, 111, 112, 113, 114, 115, 8] u).eval = ev at *
          refine k_val (.int .i64 (i)) ⟨_, fg, rfl⟩ rfl hG ?_ rfl
          simp [go_sem, e14]
        · intro u W hG hf
          have f108 : u 18 = .int .i64 (i) := hf 18 (by decide)
          have e108 := frm_head (ds := [90, 91, 92, 93, 94, 95, 96, 97, 98, 99, 100, 101, 102, 103, 104, 105, 106, 107, 108, 109, 110, 111, 112, 113, 114, 115, 8]) (u := u) (k := 108) (i := 18) (by rw [hN]; decide) rfl f108
          have fg : u 9 = .bool true := hf 9 (by decide)
          have ec : ∀ v, (frm A [90, 91, 92, 93, 94, 95, 96, 97, 98, 99, 100, 101, 102, 103, 104, 105, 106, 107, 108, 109, 110, 111, 112, 113, 114, 115, 8] u).eval (.const v) = v := fun _ => rfl
          generalize (frm A [90, 91, 92, 93, 94, 95, 96, 97, 98, 99, 100, 101, 102, 103, 104, 105, 106, 107, 108, 109, 110, 111, 112, 113, 114, 115, 8] u).eval = ev at *
          refine k_val (.int .i64 (i + 5)) ⟨_, fg, rfl⟩ rfl hG ?_ rfl
          simp [go_sem, ec, e108, hw5]
        · intro u W hG hf
          have f107 : u 17 = .agg #[.bool a2, .string s2] := hf 17 (by decide)
          have e107 := frm_head (ds := [90, 91, 92, 93, 94, 95, 96, 97, 98, 99, 100, 101, 102, 103, 104, 105, 106, 107, 108, 109, 110, 111, 112, 113, 114, 115, 8]) (u := u) (k := 107) (i := 17) (by rw [hN]; decide) rfl f107
          have f109 : u 19 = .int .i64 (i + 5) := hf 19 (by decide)
          have e109 := frm_head (ds := [90, 91, 92, 93, 94, 95, 96, 97, 98, 99, 100, 101, 102, 103, 104, 105, 106, 107, 108, 109, 110, 111, 112, 113, 114, 115, 8]) (u := u) (k := 109) (i := 19) (by rw [hN]; decide) rfl f109
          have fg : u 9 = .bool true := hf 9 (by decide)
          have ef : ∀ f, (frm A [90, 91, 92, 93, 94, 95, 96, 97, 98, 99, 100, 101, 102, 103, 104, 105, 106, 107, 108, 109, 110, 111, 112, 113, 114, 115, 8] u).eval (.func f) = .func (.func f) #[] #[] := fun _ => rfl
          generalize (frm A [90, 91, 92, 93, 94, 95, 96, 97, 98, 99, 100, 101, 102, 103, 104, 105, 106, 107, 108, 109, 110, 111, 112, 113, 114, 115, 8] u).eval = ev at *
          exact k_call _ _ ⟨_, fg, rfl⟩ rfl (by simp [go_sem, ef, e107, e109]) (wPowN nB (by omega) hyp) (fun w' hb => nxt hG hb) (fun _ _ => rfl)
        · intro u W hG hf
          have f106 : u 16 = .agg #[.bool (neg (yp)), .string (mag (yp))] := hf 16 (by decide)
          have e106 := frm_head (ds := [90, 91, 92, 93, 94, 95, 96, 97, 98, 99, 100, 101, 102, 103, 104, 105, 106, 107, 108, 109, 110, 111, 112, 113, 114, 115, 8]) (u := u) (k := 106) (i := 16) (by rw [hN]; decide) rfl f106
          have f110 : u 20 = .agg #[.bool (neg (yp)), .string (mag (yp))] := hf 20 (by decide)
          have e110 := frm_head (ds := [90, 91, 92, 93, 94, 95, 96, 97, 98, 99, 100, 101, 102, 103, 104, 105, 106, 107, 108, 109, 110, 111, 112, 113, 114, 115, 8]) (u := u) (k := 110) (i := 20) (by rw [hN]; decide) rfl f110
          have fg : u 9 = .bool true := hf 9 (by decide)
          generalize (frm A [90, 91, 92, 93, 94, 95, 96, 97, 98, 99, 100, 101, 102, 103, 104, 105, 106, 107, 108, 109, 110, 111, 112, 113, 114, 115, 8] u).eval = ev at *
          refine k_val (.bool true) ⟨_, fg, rfl⟩ rfl hG ?_ rfl
          simp [go_sem, e106, e110]
        · intro u W hG hf
          have f99 : u 9 = .bool true := hf 9 (by decide)
          have e99 := frm_head (ds := [90, 91, 92, 93, 94, 95, 96, 97, 98, 99, 100, 101, 102, 103, 104, 105, 106, 107, 108, 109, 110, 111, 112, 113, 114, 115, 8]) (u := u) (k := 99) (i := 9) (by rw [hN]; decide) rfl f99
          have f111 : u 21 = .bool true := hf 21 (by decide)
          have e111 := frm_head (ds := [90, 91, 92, 93, 94, 95, 96, 97, 98, 99, 100, 101, 102, 103, 104, 105, 106, 107, 108, 109, 110, 111, 112, 113, 114, 115, 8]) (u := u) (k := 111) (i := 21) (by rw [hN]; decide) rfl f111
          generalize (frm A [90, 91, 92, 93, 94, 95, 96, 97, 98, 99, 100, 101, 102, 103, 104, 105, 106, 107, 108, 109, 110, 111, 112, 113, 114, 115, 8] u).eval = ev at *
          refine k_val (.bool true) rfl rfl hG ?_ rfl
          simp [go_sem, e99, e111]
        · intro u W hG hf
          have f112 : u 22 = .bool true := hf 22 (by decide)
          have e112 := frm_head (ds := [90, 91, 92, 93, 94, 95, 96, 97, 98, 99, 100, 101, 102, 103, 104, 105, 106, 107, 108, 109, 110, 111, 112, 113, 114, 115, 8]) (u := u) (k := 112) (i := 22) (by rw [hN]; decide) rfl f112
          generalize (frm A [90, 91, 92, 93, 94, 95, 96, 97, 98, 99, 100, 101, 102, 103, 104, 105, 106, 107, 108, 109, 110, 111, 112, 113, 114, 115, 8] u).eval = ev at *
          refine k_val (.bool true) rfl rfl hG ?_ rfl
          simp [go_sem, e112]
        · intro u W hG hf
          have fg : u 23 = .bool true := hf 23 (by decide)
          have ef : ∀ f, (frm A [90, 91, 92, 93, 94, 95, 96, 97, 98, 99, 100, 101, 102, 103, 104, 105, 106, 107, 108, 109, 110, 111, 112, 113, 114, 115, 8] u).eval (.func f) = .func (.func f) #[] #[] := fun _ => rfl
          generalize (frm A [90, 91, 92, 93, 94, 95, 96, 97, 98, 99, 100, 101, 102, 103, 104, 105, 106, 107, 108, 109, 110, 111, 112, 113, 114, 115, 8] u).eval = ev at *
          exact k_call _ _ ⟨_, fg, rfl⟩ rfl (by simp [go_sem, ef]) (HA.out W (nxt hB hG)) (fun w' hb => nxt hG hb) (fun _ _ => rfl)
        · intro u W hG hf
          have f113 : u 23 = .bool true := hf 23 (by decide)
          have e113 := frm_head (ds := [90, 91, 92, 93, 94, 95, 96, 97, 98, 99, 100, 101, 102, 103, 104, 105, 106, 107, 108, 109, 110, 111, 112, 113, 114, 115, 8]) (u := u) (k := 113) (i := 23) (by rw [hN]; decide) rfl f113
          have f114 : u 24 = .bool true := hf 24 (by decide)
          have e114 := frm_head (ds := [90, 91, 92, 93, 94, 95, 96, 97, 98, 99, 100, 101, 102, 103, 104, 105, 106, 107, 108, 109, 110, 111, 112, 113, 114, 115, 8]) (u := u) (k := 114) (i := 24) (by rw [hN]; decide) rfl f114
          generalize (frm A [90, 91, 92, 93, 94, 95, 96, 97, 98, 99, 100, 101, 102, 103, 104, 105, 106, 107, 108, 109, 110, 111, 112, 113, 114, 115, 8] u).eval = ev at *
          refine k_val (.bool true) rfl rfl hG ?_ rfl
          simp [go_sem, e113, e114]
        · intro u W hG hf
          have f115 : u 25 = .bool true := hf 25 (by decide)
          have e115 := frm_head (ds := [90, 91, 92, 93, 94, 95, 96, 97, 98, 99, 100, 101, 102, 103, 104, 105, 106, 107, 108, 109, 110, 111, 112, 113, 114, 115, 8]) (u := u) (k := 115) (i := 25) (by rw [hN]; decide) rfl f115
          generalize (frm A [90, 91, 92, 93, 94, 95, 96, 97, 98, 99, 100, 101, 102, 103, 104, 105, 106, 107, 108, 109, 110, 111, 112, 113, 114, 115, 8] u).eval = ev at *
          refine k_val (.bool true) rfl rfl hG ?_ rfl
          simp [go_sem, e115]
      case hlate =>
        intro A _
        exact ⟨trivial, trivial, trivial, trivial, trivial, trivial, trivial, trivial, trivial, trivial, trivial, trivial, trivial, trivial, trivial, trivial, trivial, trivial, trivial, trivial, trivial, trivial, trivial, trivial, trivial, trivial, trivial, trivial⟩
      case htail =>
        intro u w9 hG hP _
        have f8 : u 26 = .bool true := hP 26 (by decide)
        simp only [putAll, Act.put, List.setIfInBounds_toArray, List.set_cons_zero, List.set_cons_succ, List.length_cons, List.length_nil, Nat.reduceAdd, List.drop_succ_cons, List.drop_zero, f8]
        go_wp2
        go_ret
        exact ⟨rfl, nxt hB hG⟩

set_option maxRecDepth 100000 in
set_option maxHeartbeats 2000000 in
theorem wholeParts_any (s1 s2 : ByteArray) (a1 a2 : Bool) (n1 n2 : Int) (w : World) (h1' : (Lit.int IntKind.u8 n1).wf = true) (h2' : (Lit.int IntKind.u8 n2).wf = true) (hT : TabAt 0 Lib.deBruijn64tab w) :
    Calls Tryd.prog 9 #[.agg #[.bool a1, .string s1], .agg #[.bool a2, .string s2], .int .u8 n1, .int .u8 n2] w fun e w' => e = .returned (.bool true) ∧ Below w.heap.size w w' := by
  have hn1 : 0 ≤ n1 ∧ n1 ≤ 255 := by simpa [Lit.wf, IntKind.min, IntKind.max, IntKind.signed, IntKind.bits] using h1'
  have hn2 : 0 ≤ n2 ∧ n2 ≤ 255 := by simpa [Lit.wf, IntKind.min, IntKind.max, IntKind.signed, IntKind.bits] using h2'
  have HA := Lib.hid (fun W (h : Below w.heap.size w W) => wawake_any W (tab_keep hT h))
  clear h1' h2'
  by_cases hbig : (100 : Int) < (s1.size : Int) ∨ (100 : Int) < (s2.size : Int)
  · have cl := Lib.hid (fun W => long2_yes s1 s2 a1 a2 100 W hbig)
    clear hbig hT hn1 hn2
    go_enter Tryd.func9, Tryd.ntmps9
    go_upto_region 1 with (fail)
    have X1 := (Bx.new w 26 #[.bool a1, .string s1]).alloc (.cells #[.bool a2, .string s2] 26)
    have X2 := Bx.at1 w (.cells #[.bool a1, .string s1] 26) 26 #[.bool a2, .string s2]
    have hB := b2 w (.cells #[.bool a1, .string s1] 26) (.cells #[.bool a2, .string s2] 26)
    generalize (w.alloc (.cells #[.bool a1, .string s1] 26)).alloc (.cells #[.bool a2, .string s2] 26) = w0 at *
    have hl0 := X1.lt
    have hl1 := X2.lt
    obtain ⟨p1, p2, _, _⟩ := X1.two
    obtain ⟨q1, q2, _, _⟩ := X2.two
    go_wp2_with fail
    refine (cl.out w0).mono ?_
    rintro e w1 ⟨rfl, rfl⟩
    replace hB := nxtA hB (.cells #[.bool a1, .string s1, .bool a2, .string s2] 26)
    go_wp2_with fail
    refine (HA.out _ hB).mono ?_
    rintro e wz ⟨rfl, hb⟩
    go_wp2
    go_ret
    exact ⟨rfl, nxt hB hb⟩
  have h1 : s1.size ≤ 100 := by omega
  have h2 : s2.size ≤ 100 := by omega
  have cl := Lib.hid (fun W => long2_no s1 s2 a1 a2 100 W (by omega) (by omega))
  have nA := num_raw a1 s1 (by omega)
  have nB := num_raw a2 s2 (by omega)
  by_cases h0 : ival a2 (sval s2) = 0
  · exact wholeParts_zero s1 s2 a1 a2 n1 n2 w HA cl (Lib.hid (fun W => wDivZ (W := W) nA nB h0)) (Lib.hid (fun W => wSignN (W := W) nB (by rw [h0]; rfl)))
  · have hy : ival a1 (sval s1) % ival a2 (sval s2) < ival false (sval s2) := by
      have h3 := Int.emod_lt (ival a1 (sval s1)) h0
      rw [ival_natAbs] at h3
      exact h3
    exact wholeParts_main s1 s2 a1 a2 n1 n2 _ _ _ _ _ _ _ _ w nA nB (num_raw false s2 (by omega)) (bsz_up (bsz_ival a1 s1) h1) (bsz_up (bsz_ival a2 s2) h2) h0 rfl rfl hy rfl (Int.emod_nonneg n1 (by decide)) (Int.emod_lt_of_pos n1 (by decide)) (Int.emod_nonneg n2 (by decide)) (Int.emod_lt_of_pos n2 (by decide)) rfl rfl hn1.1 hn1.2 hn2.1 hn2.2 hT HA cl

end Go.Proofs.YtmnmfidcldmhdaaDoor
