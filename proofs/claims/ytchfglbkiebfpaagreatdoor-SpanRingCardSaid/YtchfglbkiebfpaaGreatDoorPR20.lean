/- The walks and plain laws beneath the statements. -/
import Derived.Test.YtchfglbkiebfpaaGreatDoorPR18
import Derived.Test.YtchfglbkiebfpaaGreatDoorPR19
import Derived.Test.YtchfglbkiebfpaaGreatDoorPR1
namespace Go.Proofs.YtchfglbkiebfpaaGreatDoor
open Go.RowKit

/-- The quotient as two whole numbers: x / y times 2^p. -/
def quoM (x y : Dyadic) (p : Int) : Int := if 0 ≤ de x - de y + p then dm x * 2 ^ (de x - de y + p).toNat else dm x
def quoN (x y : Dyadic) (p : Int) : Int := if 0 ≤ de x - de y + p then dm y else dm y * 2 ^ (-(de x - de y + p)).toNat
def quoD (x y : Dyadic) (p : Int) : Dyadic := if quoN x y p < 0 then dy (-quoM x y p / -quoN x y p) (-p) else dy (quoM x y p / quoN x y p) (-p)
theorem quoN_ne {x y : Dyadic} {p : Int} (hy : y ≠ 0) : quoN x y p ≠ 0 := by
  have h : dm y ≠ 0 := fun h => hy (dm_zero.1 h)
  unfold quoN; split
  · exact h
  · exact Int.mul_ne_zero h (Int.ne_of_gt (Int.pow_pos (by decide)))
theorem div_I {m d : Int} (hm : bsz m ≤ 536870912) (hd : bsz d ≤ 536870912) (h0 : d ≠ 0) :
    Hid (∀ W : World, Calls Tryz.prog 123 #[.agg #[.bool (neg m), .string (mag m)], .agg #[.bool (neg d), .string (mag d)]] W fun r w' => r = .returned (.tuple #[.agg #[.bool (neg (m / d)), .string (mag (m / d))], .agg #[.bool (neg (m % d)), .string (mag (m % d))], .bool true]) ∧ Below W.heap.size W w') := by
  have h := Lib.hid (fun W => wDiv_any (mag m) (mag d) (neg m) (neg d) W (by rw [mag_size]; exact hm) (by rw [mag_size]; exact hd))
  rw [if_neg (by rw [sval_mag]; omega), ival_mk, ival_mk] at h
  exact h
theorem neg_I {m : Int} :
    Hid (∀ W : World, Calls Tryz.prog 117 #[.agg #[.bool (neg m), .string (mag m)]] W fun r w' => r = .returned (.agg #[.bool (neg (-m)), .string (mag (-m))]) ∧ Below W.heap.size W w') := by
  have h := Lib.hid (fun W => wNeg_any (mag m) (neg m) W)
  rw [ival_mk] at h
  exact h
theorem sign_I {m : Int} :
    Hid (∀ W : World, Calls Tryz.prog 106 #[.agg #[.bool (neg m), .string (mag m)]] W fun r w' => r = .returned (.int .i64 (sgn m)) ∧ Below W.heap.size W w') := by
  have h := Lib.hid (fun W => wSign_any (mag m) (neg m) W)
  rw [ival_mk] at h
  exact h
theorem make_I {q e : Int} (hq : bsz q ≤ 536870912) (he1 : -4611686018427387904 ≤ e) (he2 : e ≤ 4611686018427387904) :
    Hid (∀ W : World, TabAt 0 Lib.deBruijn64tab W → Calls Tryz.prog 101 #[.agg #[.bool (neg q), .string (mag q)], .int .i64 e] W fun r w' => r = .returned (.agg #[.bool (neg (dm (dy q e))), .string (mag (dm (dy q e))), .int .i64 (de (dy q e))]) ∧ Below W.heap.size W w') := by
  have h := Lib.hid (fun W h => dMake_any (mag q) (neg q) e W (by rw [mag_size]; exact hq) he1 he2 h)
  rw [ival_mk] at h
  exact h

theorem sBelow_any {x y : Dyadic} {L T0 : Nat} (p : Int) (w : World) (d1 : DB L T0 x) (d2 : DB L T0 y) (hy : y ≠ 0) (hLT : L + T0 ≤ 4000000) (hp1 : -4000000 ≤ p) (hp2 : p ≤ 4000000) (hT : TabAt 0 Lib.deBruijn64tab w) :
    Calls Tryz.prog 80 #[.agg #[.bool (neg (dm (x))), .string (mag (dm (x))), .int .i64 (de (x))], .agg #[.bool (neg (dm (y))), .string (mag (dm (y))), .int .i64 (de (y))], .int .i64 p] w fun r w' => r = .returned (.agg #[.bool (neg (dm (quoD x y p))), .string (mag (dm (quoD x y p))), .int .i64 (de (quoD x y p))]) ∧ Below w.heap.size w w' := by
  have f1 := db_form d1
  have f2 := db_form d2
  have s1 := db_size d1
  have s2 := db_size d2
  have b1 : bsz (dm x) ≤ 600000 := by rw [mag_size] at s1; omega
  have b2 : bsz (dm y) ≤ 600000 := by rw [mag_size] at s2; omega
  have hN := quoN_ne (x := x) (p := p) hy
  obtain ⟨n, hn⟩ : ∃ n, n = de x - de y + p := ⟨_, rfl⟩
  have w1 : IntKind.i64.wrap (de x - de y) = de x - de y := IntWalk.i64_in _ (by omega)
  have w2 : IntKind.i64.wrap (de x - de y + p) = n := by rw [IntWalk.i64_in _ (by omega), hn]
  have w3 : IntKind.i64.wrap (-p) = -p := IntWalk.i64_in _ (by omega)
  have w4 : IntKind.i64.wrap (-n) = -n := IntWalk.i64_in _ (by omega)
  unfold quoD
  by_cases h : 0 ≤ n
  · have eM : quoM x y p = dm x * 2 ^ n.toNat := by unfold quoM; rw [← hn, if_pos h]
    have eN : quoN x y p = dm y := by unfold quoN; rw [← hn, if_pos h]
    rw [eN] at hN
    rw [eM, eN]
    have bM : bsz (dm x * 2 ^ n.toNat) ≤ 3000000 := Nat.le_trans (bsz_shl_le b1) (by omega)
    have cH := Lib.hid (fun W h => wShift_any (mag (dm x)) (neg (dm x)) n W (by rw [mag_size]; omega) (by omega) (by omega) h)
    rw [ival_mk, show shiftI (dm x) n = dm x * 2 ^ n.toNat by unfold shiftI; rw [if_pos h]] at cH
    by_cases hg : dm y < 0
    · rw [if_pos hg]
      have bq : bsz (-(dm x * 2 ^ n.toNat) / -(dm y)) ≤ 3000000 := Nat.le_trans (bsz_natAbs_le (Int.natAbs_ediv_le_natAbs _ _)) (by rw [bsz_neg]; exact bM)
      exact sBelow_upn x y _ p n _ _ _ _ _ _ _ w w1 w2 w3 h (sgn_lt.2 hg) hT cH sign_I neg_I neg_I (div_I (by rw [bsz_neg]; omega) (by rw [bsz_neg]; omega) (by omega)) (make_I (by omega) (by omega) (by omega))
    · rw [if_neg hg]
      have bq : bsz (dm x * 2 ^ n.toNat / dm y) ≤ 3000000 := Nat.le_trans (bsz_natAbs_le (Int.natAbs_ediv_le_natAbs _ _)) bM
      exact sBelow_up x y _ p n _ _ _ _ _ w w1 w2 w3 h (Int.not_lt.1 fun h3 => hg (sgn_lt.1 h3)) hT cH sign_I (div_I (by omega) (by omega) hN) (make_I (by omega) (by omega) (by omega))
  · have eM : quoM x y p = dm x := by unfold quoM; rw [← hn, if_neg h]
    have eN : quoN x y p = dm y * 2 ^ (-n).toNat := by unfold quoN; rw [← hn, if_neg h]
    rw [eN] at hN
    rw [eM, eN]
    have bM : bsz (dm y * 2 ^ (-n).toNat) ≤ 3000000 := Nat.le_trans (bsz_shl_le b2) (by omega)
    have cH := Lib.hid (fun W h => wShift_any (mag (dm y)) (neg (dm y)) (-n) W (by rw [mag_size]; omega) (by omega) (by omega) h)
    rw [ival_mk, show shiftI (dm y) (-n) = dm y * 2 ^ (-n).toNat by unfold shiftI; rw [if_pos (by omega)]] at cH
    by_cases hg : dm y * 2 ^ (-n).toNat < 0
    · rw [if_pos hg]
      have bq : bsz (-dm x / -(dm y * 2 ^ (-n).toNat)) ≤ 600000 := Nat.le_trans (bsz_natAbs_le (Int.natAbs_ediv_le_natAbs _ _)) (by rw [bsz_neg]; exact b1)
      exact sBelow_dnn x y _ p n _ _ _ _ _ _ _ w w1 w2 w3 w4 (by omega) (sgn_lt.2 hg) hT cH sign_I neg_I neg_I (div_I (by rw [bsz_neg]; omega) (by rw [bsz_neg]; omega) (by omega)) (make_I (by omega) (by omega) (by omega))
    · rw [if_neg hg]
      have bq : bsz (dm x / (dm y * 2 ^ (-n).toNat)) ≤ 600000 := Nat.le_trans (bsz_natAbs_le (Int.natAbs_ediv_le_natAbs _ _)) b1
      exact sBelow_dn x y _ p n _ _ _ _ _ w w1 w2 w3 w4 (by omega) (Int.not_lt.1 fun h3 => hg (sgn_lt.1 h3)) hT cH sign_I (div_I (by omega) (by omega) hN) (make_I (by omega) (by omega) (by omega))

end Go.Proofs.YtchfglbkiebfpaaGreatDoor

namespace Go.Proofs.YtchfglbkiebfpaaGreatDoor
open Go.RowKit

set_option maxRecDepth 100000 in
set_option maxHeartbeats 1000000 in
theorem sQuo_zero (s t : ByteArray) (b c : Bool) (e f p g : Int) (x y : Dyadic) (w : World) (hg : g = 0) (hT : TabAt 0 Lib.deBruijn64tab w)
    (cF : Hid (∀ W : World, TabAt 0 Lib.deBruijn64tab W → Calls Tryz.prog 79 #[.agg #[.bool b, .string s, .int .i64 e]] W fun r w' => r = .returned (.agg #[.bool (neg (dm (x))), .string (mag (dm (x))), .int .i64 (de (x))]) ∧ Below W.heap.size W w'))
    (cG : Hid (∀ W : World, TabAt 0 Lib.deBruijn64tab W → Calls Tryz.prog 79 #[.agg #[.bool c, .string t, .int .i64 f]] W fun r w' => r = .returned (.agg #[.bool (neg (dm (y))), .string (mag (dm (y))), .int .i64 (de (y))]) ∧ Below W.heap.size W w'))
    (cS : Hid (∀ W : World, Calls Tryz.prog 50 #[.agg #[.bool (neg (dm (y))), .string (mag (dm (y))), .int .i64 (de (y))]] W fun r w' => r = .returned (.int .i64 g) ∧ Below W.heap.size W w'))
    :
    Calls Tryz.prog 23 #[.agg #[.bool b, .string s, .int .i64 e], .agg #[.bool c, .string t, .int .i64 f], .int .i64 p] w fun r w' => r = .returned (.tuple #[.agg #[.bool false, .string ⟨#[]⟩, .int .i64 0, .bool false, .string ⟨#[]⟩, .int .i64 0], .int .i64 1]) ∧ Below w.heap.size w w' := by
  have HT := Lib.hid hT
  clear hT
  go_enter Tryz.func23, Tryz.ntmps23
  go_upto_region 1 with (fail)
  have X1 := ((Bx.new w 25 #[.bool b, .string s, .int .i64 e]).alloc (.cells #[.bool c, .string t, .int .i64 f] 25)).alloc (.cells #[.bool false, .string ⟨#[]⟩, .int .i64 0, .bool false, .string ⟨#[]⟩, .int .i64 0] 27)
  have X2 := (Bx.at1 w (.cells #[.bool b, .string s, .int .i64 e] 25) 25 #[.bool c, .string t, .int .i64 f]).alloc (.cells #[.bool false, .string ⟨#[]⟩, .int .i64 0, .bool false, .string ⟨#[]⟩, .int .i64 0] 27)
  have X3 := Bx.at2 w (.cells #[.bool b, .string s, .int .i64 e] 25) (.cells #[.bool c, .string t, .int .i64 f] 25) 27 #[.bool false, .string ⟨#[]⟩, .int .i64 0, .bool false, .string ⟨#[]⟩, .int .i64 0]
  have hB := b3 w (.cells #[.bool b, .string s, .int .i64 e] 25) (.cells #[.bool c, .string t, .int .i64 f] 25) (.cells #[.bool false, .string ⟨#[]⟩, .int .i64 0, .bool false, .string ⟨#[]⟩, .int .i64 0] 27)
  generalize ((w.alloc (.cells #[.bool b, .string s, .int .i64 e] 25)).alloc (.cells #[.bool c, .string t, .int .i64 f] 25)).alloc (.cells #[.bool false, .string ⟨#[]⟩, .int .i64 0, .bool false, .string ⟨#[]⟩, .int .i64 0] 27) = w0 at *
  have hl0 := X1.lt
  have hl1 := X2.lt
  have hl2 := X3.lt
  refine wp_region_k [8, 9, 10, 11] [.eq (.agg #[.bool b, .string s, .int .i64 e]), .eq (.agg #[.bool (neg (dm (x))), .string (mag (dm (x))), .int .i64 (de (x))]), .eq (.agg #[.bool c, .string t, .int .i64 f]), .eq (.agg #[.bool (neg (dm (y))), .string (mag (dm (y))), .int .i64 (de (y))])] 27 (by kernel_rfl) (by exact fun _ _ _ _ _ h => h) (by kernel_rfl) (by rfl) ?hop ?htail
  case hop =>
    intro A hA
    have hN : A.tmps.size = 27 := by rw [hA]; rfl
    have q3 : A.tmps.getD 3 undef = .pointer (some ⟨w.heap.size, 0, none⟩) := by rw [hA]; rfl
    have q4 : A.tmps.getD 4 undef = .pointer (some ⟨w.heap.size + 1, 0, none⟩) := by rw [hA]; rfl
    clear hA
    refine ⟨?_, ?_, ?_, ?_, trivial⟩
    · refine kok hN fun u W ev ec ef E B hG hf => ?_
      exact k_val _ rfl rfl hG (by simp [go_sem, B 3 rfl rfl q3, (X1.later hG).cel]) rfl
    · refine kok hN fun u W ev ec ef E B hG hf => ?_
      exact k_cl rfl rfl (by simp [go_sem, ef, E 8 0 rfl rfl (hf 0 rfl)]) (cF.out W (tab_keep HT.out (nxt hB hG))) hG (fun _ _ => rfl)
    · refine kok hN fun u W ev ec ef E B hG hf => ?_
      exact k_val _ rfl rfl hG (by simp [go_sem, B 4 rfl rfl q4, (X2.later hG).cel]) rfl
    · refine kok hN fun u W ev ec ef E B hG hf => ?_
      exact k_cl rfl rfl (by simp [go_sem, ef, E 10 2 rfl rfl (hf 2 rfl)]) (cG.out W (tab_keep HT.out (nxt hB hG))) hG (fun _ _ => rfl)
  case htail =>
    intro u w' hG hP hD
    have f9 : u 1 = .agg #[.bool (neg (dm (x))), .string (mag (dm (x))), .int .i64 (de (x))] := hP 1 (by decide)
    have f11 : u 3 = .agg #[.bool (neg (dm (y))), .string (mag (dm (y))), .int .i64 (de (y))] := hP 3 (by decide)
    simp only [putAll, Act.put, List.setIfInBounds_toArray, List.set_cons_zero, List.set_cons_succ, List.length_cons, List.length_nil, Nat.reduceAdd, List.drop_succ_cons, List.drop_zero, f9, f11]
    have hBn := nxt hB hG
    replace X1 := X1.later hG
    replace X2 := X2.later hG
    replace X3 := X3.later hG
    have hne : w.heap.size + 1 ≠ w.heap.size := by omega
    have hne2 : w.heap.size + 2 ≠ w.heap.size := by omega
    have hne3 : w.heap.size + 2 ≠ w.heap.size + 1 := by omega
    have Y2 := Bx.far3 (i := 0) (j := 1) (k := 2) X2 hne (.bool (neg (dm (x)))) (.string (mag (dm (x)))) (.int .i64 (de (x)))
    have Z1 := Bx.far3 (i := 0) (j := 1) (k := 2) (X1.set3 (.bool (neg (dm (x)))) (.string (mag (dm (x)))) (.int .i64 (de (x)))) (Ne.symm hne) (.bool (neg (dm (y)))) (.string (mag (dm (y)))) (.int .i64 (de (y)))
    have Z2 := Y2.set3 (.bool (neg (dm (y)))) (.string (mag (dm (y)))) (.int .i64 (de (y)))
    have Z3 := Bx.far3 (i := 0) (j := 1) (k := 2) (Bx.far3 (i := 0) (j := 1) (k := 2) X3 hne2 (.bool (neg (dm (x)))) (.string (mag (dm (x)))) (.int .i64 (de (x)))) hne3 (.bool (neg (dm (y)))) (.string (mag (dm (y)))) (.int .i64 (de (y)))
    have hB2 := st3 (st3 hBn (Nat.le_refl _) (.bool (neg (dm (x)))) (.string (mag (dm (x)))) (.int .i64 (de (x)))) (Nat.le_add_right _ 1) (.bool (neg (dm (y)))) (.string (mag (dm (y)))) (.int .i64 (de (y)))
    obtain ⟨p1, p2, p5, p3, p4, p6⟩ := X1.three
    obtain ⟨q1', q2', q5', q3', q4', q6'⟩ := Y2.three
    have HK := Lib.hid (And.intro Z1 (And.intro Z2 (And.intro Z3 hB2)))
    clear f9 f11 hP hD hG hB hBn X1 X2 X3 Y2 Z1 Z2 Z3 hB2 hne hne2 hne3
    go_upto_region 2 with (fail)
    obtain ⟨X1, X2, X3, hB⟩ := HK.out
    clear HK p1 p2 p5 p3 p4 p6 q1' q2' q5' q3' q4' q6'
    generalize (((((w'.setCell ⟨w.heap.size, 0, none⟩ (.bool (neg (dm (x))))).setCell ⟨w.heap.size, 1, none⟩ (.string (mag (dm (x))))).setCell ⟨w.heap.size, 2, none⟩ (.int .i64 (de (x)))).setCell ⟨w.heap.size + 1, 0, none⟩ (.bool (neg (dm (y))))).setCell ⟨w.heap.size + 1, 1, none⟩ (.string (mag (dm (y))))).setCell ⟨w.heap.size + 1, 2, none⟩ (.int .i64 (de (y))) = w2 at *
    obtain ⟨p1, p2, p5, _, _, _⟩ := X2.three
    go_wp2_with fail
    refine (cS.out _).mono ?_
    rintro e w3 ⟨rfl, hb⟩
    replace X1 := X1.later hb
    replace X2 := X2.later hb
    replace X3 := X3.later hb
    replace hB := nxt hB hb
    clear hb p1 p2 p5
    obtain ⟨r1, r2, r3, r4, r5, r6, r7, r8, r9, r10, r11, r12⟩ := X3.six
    have HX := Lib.hid (And.intro X3 hB)
    clear X1 X2 X3 hB
    go_wp2_with fail
    exact bodyPost_ret (v := .tuple #[.agg #[.bool false, .string ⟨#[]⟩, .int .i64 0, .bool false, .string ⟨#[]⟩, .int .i64 0], .int .i64 1]) (by simp [results, Tryz.results23, go_sem, (HX.out.1.set6 _ _ _ _ _ _).cel]) rfl ⟨rfl, st6 HX.out.2 (Nat.le_add_right _ 2) _ _ _ _ _ _⟩

set_option maxRecDepth 100000 in
set_option maxHeartbeats 1000000 in
theorem sQuo_some (s t : ByteArray) (b c : Bool) (e f p g : Int) (x y x' z1 z2 z3 : Dyadic) (w : World) (hg : ¬ g = 0) (hT : TabAt 0 Lib.deBruijn64tab w)
    (cF : Hid (∀ W : World, TabAt 0 Lib.deBruijn64tab W → Calls Tryz.prog 79 #[.agg #[.bool b, .string s, .int .i64 e]] W fun r w' => r = .returned (.agg #[.bool (neg (dm (x))), .string (mag (dm (x))), .int .i64 (de (x))]) ∧ Below W.heap.size W w'))
    (cG : Hid (∀ W : World, TabAt 0 Lib.deBruijn64tab W → Calls Tryz.prog 79 #[.agg #[.bool c, .string t, .int .i64 f]] W fun r w' => r = .returned (.agg #[.bool (neg (dm (y))), .string (mag (dm (y))), .int .i64 (de (y))]) ∧ Below W.heap.size W w'))
    (cS : Hid (∀ W : World, Calls Tryz.prog 50 #[.agg #[.bool (neg (dm (y))), .string (mag (dm (y))), .int .i64 (de (y))]] W fun r w' => r = .returned (.int .i64 g) ∧ Below W.heap.size W w'))
    (c1 : Hid (∀ W : World, TabAt 0 Lib.deBruijn64tab W → Calls Tryz.prog 80 #[.agg #[.bool (neg (dm (x))), .string (mag (dm (x))), .int .i64 (de (x))], .agg #[.bool (neg (dm (y))), .string (mag (dm (y))), .int .i64 (de (y))], .int .i64 p] W fun r w' => r = .returned (.agg #[.bool (neg (dm (z1))), .string (mag (dm (z1))), .int .i64 (de (z1))]) ∧ Below W.heap.size W w'))
    (c2 : Hid (∀ W : World, TabAt 0 Lib.deBruijn64tab W → Calls Tryz.prog 63 #[.agg #[.bool (neg (dm (x))), .string (mag (dm (x))), .int .i64 (de (x))]] W fun r w' => r = .returned (.agg #[.bool (neg (dm (x'))), .string (mag (dm (x'))), .int .i64 (de (x'))]) ∧ Below W.heap.size W w'))
    (c3 : Hid (∀ W : World, TabAt 0 Lib.deBruijn64tab W → Calls Tryz.prog 80 #[.agg #[.bool (neg (dm (x'))), .string (mag (dm (x'))), .int .i64 (de (x'))], .agg #[.bool (neg (dm (y))), .string (mag (dm (y))), .int .i64 (de (y))], .int .i64 p] W fun r w' => r = .returned (.agg #[.bool (neg (dm (z2))), .string (mag (dm (z2))), .int .i64 (de (z2))]) ∧ Below W.heap.size W w'))
    (c4 : Hid (∀ W : World, TabAt 0 Lib.deBruijn64tab W → Calls Tryz.prog 63 #[.agg #[.bool (neg (dm (z2))), .string (mag (dm (z2))), .int .i64 (de (z2))]] W fun r w' => r = .returned (.agg #[.bool (neg (dm (z3))), .string (mag (dm (z3))), .int .i64 (de (z3))]) ∧ Below W.heap.size W w'))
    :
    Calls Tryz.prog 23 #[.agg #[.bool b, .string s, .int .i64 e], .agg #[.bool c, .string t, .int .i64 f], .int .i64 p] w fun r w' => r = .returned (.tuple #[.agg #[.bool (neg (dm (z1))), .string (mag (dm (z1))), .int .i64 (de (z1)), .bool (neg (dm (z3))), .string (mag (dm (z3))), .int .i64 (de (z3))], .int .i64 0]) ∧ Below w.heap.size w w' := by
  have HT := Lib.hid hT
  clear hT
  go_enter Tryz.func23, Tryz.ntmps23
  go_upto_region 1 with (fail)
  have X1 := ((Bx.new w 25 #[.bool b, .string s, .int .i64 e]).alloc (.cells #[.bool c, .string t, .int .i64 f] 25)).alloc (.cells #[.bool false, .string ⟨#[]⟩, .int .i64 0, .bool false, .string ⟨#[]⟩, .int .i64 0] 27)
  have X2 := (Bx.at1 w (.cells #[.bool b, .string s, .int .i64 e] 25) 25 #[.bool c, .string t, .int .i64 f]).alloc (.cells #[.bool false, .string ⟨#[]⟩, .int .i64 0, .bool false, .string ⟨#[]⟩, .int .i64 0] 27)
  have X3 := Bx.at2 w (.cells #[.bool b, .string s, .int .i64 e] 25) (.cells #[.bool c, .string t, .int .i64 f] 25) 27 #[.bool false, .string ⟨#[]⟩, .int .i64 0, .bool false, .string ⟨#[]⟩, .int .i64 0]
  have hB := b3 w (.cells #[.bool b, .string s, .int .i64 e] 25) (.cells #[.bool c, .string t, .int .i64 f] 25) (.cells #[.bool false, .string ⟨#[]⟩, .int .i64 0, .bool false, .string ⟨#[]⟩, .int .i64 0] 27)
  generalize ((w.alloc (.cells #[.bool b, .string s, .int .i64 e] 25)).alloc (.cells #[.bool c, .string t, .int .i64 f] 25)).alloc (.cells #[.bool false, .string ⟨#[]⟩, .int .i64 0, .bool false, .string ⟨#[]⟩, .int .i64 0] 27) = w0 at *
  have hl0 := X1.lt
  have hl1 := X2.lt
  have hl2 := X3.lt
  refine wp_region_k [8, 9, 10, 11] [.eq (.agg #[.bool b, .string s, .int .i64 e]), .eq (.agg #[.bool (neg (dm (x))), .string (mag (dm (x))), .int .i64 (de (x))]), .eq (.agg #[.bool c, .string t, .int .i64 f]), .eq (.agg #[.bool (neg (dm (y))), .string (mag (dm (y))), .int .i64 (de (y))])] 27 (by kernel_rfl) (by exact fun _ _ _ _ _ h => h) (by kernel_rfl) (by rfl) ?hop ?htail
  case hop =>
    intro A hA
    have hN : A.tmps.size = 27 := by rw [hA]; rfl
    have q3 : A.tmps.getD 3 undef = .pointer (some ⟨w.heap.size, 0, none⟩) := by rw [hA]; rfl
    have q4 : A.tmps.getD 4 undef = .pointer (some ⟨w.heap.size + 1, 0, none⟩) := by rw [hA]; rfl
    clear hA
    refine ⟨?_, ?_, ?_, ?_, trivial⟩
    · refine kok hN fun u W ev ec ef E B hG hf => ?_
      exact k_val _ rfl rfl hG (by simp [go_sem, B 3 rfl rfl q3, (X1.later hG).cel]) rfl
    · refine kok hN fun u W ev ec ef E B hG hf => ?_
      exact k_cl rfl rfl (by simp [go_sem, ef, E 8 0 rfl rfl (hf 0 rfl)]) (cF.out W (tab_keep HT.out (nxt hB hG))) hG (fun _ _ => rfl)
    · refine kok hN fun u W ev ec ef E B hG hf => ?_
      exact k_val _ rfl rfl hG (by simp [go_sem, B 4 rfl rfl q4, (X2.later hG).cel]) rfl
    · refine kok hN fun u W ev ec ef E B hG hf => ?_
      exact k_cl rfl rfl (by simp [go_sem, ef, E 10 2 rfl rfl (hf 2 rfl)]) (cG.out W (tab_keep HT.out (nxt hB hG))) hG (fun _ _ => rfl)
  case htail =>
    intro u w' hG hP hD
    have f9 : u 1 = .agg #[.bool (neg (dm (x))), .string (mag (dm (x))), .int .i64 (de (x))] := hP 1 (by decide)
    have f11 : u 3 = .agg #[.bool (neg (dm (y))), .string (mag (dm (y))), .int .i64 (de (y))] := hP 3 (by decide)
    simp only [putAll, Act.put, List.setIfInBounds_toArray, List.set_cons_zero, List.set_cons_succ, List.length_cons, List.length_nil, Nat.reduceAdd, List.drop_succ_cons, List.drop_zero, f9, f11]
    have hBn := nxt hB hG
    replace X1 := X1.later hG
    replace X2 := X2.later hG
    replace X3 := X3.later hG
    have hne : w.heap.size + 1 ≠ w.heap.size := by omega
    have hne2 : w.heap.size + 2 ≠ w.heap.size := by omega
    have hne3 : w.heap.size + 2 ≠ w.heap.size + 1 := by omega
    have Y2 := Bx.far3 (i := 0) (j := 1) (k := 2) X2 hne (.bool (neg (dm (x)))) (.string (mag (dm (x)))) (.int .i64 (de (x)))
    have Z1 := Bx.far3 (i := 0) (j := 1) (k := 2) (X1.set3 (.bool (neg (dm (x)))) (.string (mag (dm (x)))) (.int .i64 (de (x)))) (Ne.symm hne) (.bool (neg (dm (y)))) (.string (mag (dm (y)))) (.int .i64 (de (y)))
    have Z2 := Y2.set3 (.bool (neg (dm (y)))) (.string (mag (dm (y)))) (.int .i64 (de (y)))
    have Z3 := Bx.far3 (i := 0) (j := 1) (k := 2) (Bx.far3 (i := 0) (j := 1) (k := 2) X3 hne2 (.bool (neg (dm (x)))) (.string (mag (dm (x)))) (.int .i64 (de (x)))) hne3 (.bool (neg (dm (y)))) (.string (mag (dm (y)))) (.int .i64 (de (y)))
    have hB2 := st3 (st3 hBn (Nat.le_refl _) (.bool (neg (dm (x)))) (.string (mag (dm (x)))) (.int .i64 (de (x)))) (Nat.le_add_right _ 1) (.bool (neg (dm (y)))) (.string (mag (dm (y)))) (.int .i64 (de (y)))
    obtain ⟨p1, p2, p5, p3, p4, p6⟩ := X1.three
    obtain ⟨q1', q2', q5', q3', q4', q6'⟩ := Y2.three
    have HK := Lib.hid (And.intro Z1 (And.intro Z2 (And.intro Z3 hB2)))
    clear f9 f11 hP hD hG hB hBn X1 X2 X3 Y2 Z1 Z2 Z3 hB2 hne hne2 hne3
    go_upto_region 2 with (fail)
    obtain ⟨X1, X2, X3, hB⟩ := HK.out
    clear HK p1 p2 p5 p3 p4 p6 q1' q2' q5' q3' q4' q6'
    generalize (((((w'.setCell ⟨w.heap.size, 0, none⟩ (.bool (neg (dm (x))))).setCell ⟨w.heap.size, 1, none⟩ (.string (mag (dm (x))))).setCell ⟨w.heap.size, 2, none⟩ (.int .i64 (de (x)))).setCell ⟨w.heap.size + 1, 0, none⟩ (.bool (neg (dm (y))))).setCell ⟨w.heap.size + 1, 1, none⟩ (.string (mag (dm (y))))).setCell ⟨w.heap.size + 1, 2, none⟩ (.int .i64 (de (y))) = w2 at *
    obtain ⟨p1, p2, p5, _, _, _⟩ := X2.three
    go_wp2_with fail
    refine (cS.out _).mono ?_
    rintro e w3 ⟨rfl, hb⟩
    replace X1 := X1.later hb
    replace X2 := X2.later hb
    replace X3 := X3.later hb
    replace hB := nxt hB hb
    clear hb p1 p2 p5
    have HX := Lib.hid (And.intro X1 (And.intro X2 (And.intro X3 hB)))
    clear X1 X2 X3 hB
    go_upto_region 4 with (fail)
    obtain ⟨X1, X2, X3, hB⟩ := HX.out
    clear HX
    refine wp_region_k [16, 17, 18, 19, 20, 21, 22, 23, 24, 25, 26] [.eq (.agg #[.bool (neg (dm (x))), .string (mag (dm (x))), .int .i64 (de (x))]), .eq (.agg #[.bool (neg (dm (y))), .string (mag (dm (y))), .int .i64 (de (y))]), .eq (.int .i64 (p)), .eq (.agg #[.bool (neg (dm (z1))), .string (mag (dm (z1))), .int .i64 (de (z1))]), .eq (.agg #[.bool (neg (dm (x))), .string (mag (dm (x))), .int .i64 (de (x))]), .eq (.agg #[.bool (neg (dm (x'))), .string (mag (dm (x'))), .int .i64 (de (x'))]), .eq (.agg #[.bool (neg (dm (y))), .string (mag (dm (y))), .int .i64 (de (y))]), .eq (.int .i64 (p)), .eq (.agg #[.bool (neg (dm (z2))), .string (mag (dm (z2))), .int .i64 (de (z2))]), .eq (.agg #[.bool (neg (dm (z3))), .string (mag (dm (z3))), .int .i64 (de (z3))]), .eq (.agg #[.bool (neg (dm (z1))), .string (mag (dm (z1))), .int .i64 (de (z1)), .bool (neg (dm (z3))), .string (mag (dm (z3))), .int .i64 (de (z3))])] 27 (by kernel_rfl) (by exact fun _ _ _ _ _ h => h) (by kernel_rfl) (by rfl) ?hop ?htail
    case hop =>
      intro A hA
      have hN : A.tmps.size = 27 := by rw [hA]; rfl
      have q3 : A.tmps.getD 3 undef = .pointer (some ⟨w.heap.size, 0, none⟩) := by rw [hA]; rfl
      have q4 : A.tmps.getD 4 undef = .pointer (some ⟨w.heap.size + 1, 0, none⟩) := by rw [hA]; rfl
      have q2 : A.tmps.getD 2 undef = .int .i64 (p) := by rw [hA]; rfl
      clear hA
      refine ⟨?_, ?_, ?_, ?_, ?_, ?_, ?_, ?_, ?_, ?_, ?_, trivial⟩
      · refine kok hN fun u W ev ec ef E B hG hf => ?_
        exact k_val _ rfl rfl hG (by simp [go_sem, B 3 rfl rfl q3, (X1.later hG).cel]) rfl
      · refine kok hN fun u W ev ec ef E B hG hf => ?_
        exact k_val _ rfl rfl hG (by simp [go_sem, B 4 rfl rfl q4, (X2.later hG).cel]) rfl
      · refine kok hN fun u W ev ec ef E B hG hf => ?_
        exact k_val _ rfl rfl hG (by simp [go_sem, B 2 rfl rfl q2]) rfl
      · refine kok hN fun u W ev ec ef E B hG hf => ?_
        exact k_cl rfl rfl (by simp [go_sem, ef, E 16 0 rfl rfl (hf 0 rfl), E 17 1 rfl rfl (hf 1 rfl), E 18 2 rfl rfl (hf 2 rfl)]) (c1.out W (tab_keep HT.out (nxt hB hG))) hG (fun _ _ => rfl)
      · refine kok hN fun u W ev ec ef E B hG hf => ?_
        exact k_val _ rfl rfl hG (by simp [go_sem, B 3 rfl rfl q3, (X1.later hG).cel]) rfl
      · refine kok hN fun u W ev ec ef E B hG hf => ?_
        exact k_cl rfl rfl (by simp [go_sem, ef, E 20 4 rfl rfl (hf 4 rfl)]) (c2.out W (tab_keep HT.out (nxt hB hG))) hG (fun _ _ => rfl)
      · refine kok hN fun u W ev ec ef E B hG hf => ?_
        exact k_val _ rfl rfl hG (by simp [go_sem, B 4 rfl rfl q4, (X2.later hG).cel]) rfl
      · refine kok hN fun u W ev ec ef E B hG hf => ?_
        exact k_val _ rfl rfl hG (by simp [go_sem, B 2 rfl rfl q2]) rfl
      · refine kok hN fun u W ev ec ef E B hG hf => ?_
        exact k_cl rfl rfl (by simp [go_sem, ef, E 21 5 rfl rfl (hf 5 rfl), E 22 6 rfl rfl (hf 6 rfl), E 23 7 rfl rfl (hf 7 rfl)]) (c3.out W (tab_keep HT.out (nxt hB hG))) hG (fun _ _ => rfl)
      · refine kok hN fun u W ev ec ef E B hG hf => ?_
        exact k_cl rfl rfl (by simp [go_sem, ef, E 24 8 rfl rfl (hf 8 rfl)]) (c4.out W (tab_keep HT.out (nxt hB hG))) hG (fun _ _ => rfl)
      · refine kok hN fun u W ev ec ef E B hG hf => ?_
        exact k_val _ rfl rfl hG (by simp [go_sem, E 19 3 rfl rfl (hf 3 rfl), E 25 9 rfl rfl (hf 9 rfl)]) rfl
    case htail =>
      intro u w9 hG hP hD
      have f26 : u 10 = .agg #[.bool (neg (dm (z1))), .string (mag (dm (z1))), .int .i64 (de (z1)), .bool (neg (dm (z3))), .string (mag (dm (z3))), .int .i64 (de (z3))] := hP 10 (by decide)
      simp only [putAll, Act.put, List.setIfInBounds_toArray, List.set_cons_zero, List.set_cons_succ, List.length_cons, List.length_nil, Nat.reduceAdd, List.drop_succ_cons, List.drop_zero, f26]
      have hB := Lib.hid (nxt hB hG)
      replace X3 := X3.later hG
      have HX := Lib.hid X3
      obtain ⟨r1, r2, r3, r4, r5, r6, r7, r8, r9, r10, r11, r12⟩ := X3.six
      clear X1 X2 X3 hP hD hG f26
      go_wp2_with fail
      exact bodyPost_ret (v := .tuple #[.agg #[.bool (neg (dm (z1))), .string (mag (dm (z1))), .int .i64 (de (z1)), .bool (neg (dm (z3))), .string (mag (dm (z3))), .int .i64 (de (z3))], .int .i64 0]) (by simp [results, Tryz.results23, go_sem, (HX.out.set6 _ _ _ _ _ _).cel]) rfl ⟨rfl, st6 hB.out (Nat.le_add_right _ 2) _ _ _ _ _ _⟩

end Go.Proofs.YtchfglbkiebfpaaGreatDoor

namespace Go.Proofs.YtchfglbkiebfpaaGreatDoor
open Go.RowKit

theorem quoM_lt {L T0 P : Nat} {x y : Dyadic} {p : Int} (d1 : DB L T0 x) (d2 : DB L T0 y) (hp : p ≤ P) : (quoM x y p).natAbs < 2 ^ (2 * (L + T0) + P) := by
  have f1 := db_form d1
  have f2 := db_form d2
  unfold quoM
  split
  · rw [Int.natAbs_mul, Int.natAbs_pow]
    show (dm x).natAbs * 2 ^ (de x - de y + p).toNat < _
    have h1 : (dm x).natAbs * 2 ^ (de x - de y + p).toNat < 2 ^ (L + T0) * 2 ^ (de x - de y + p).toNat := Nat.mul_lt_mul_of_pos_right f1.2.2 (Nat.two_pow_pos _)
    rw [← Nat.pow_add] at h1
    exact Nat.lt_of_lt_of_le h1 (Nat.pow_le_pow_right (by decide) (by omega))
  · exact Nat.lt_of_lt_of_le f1.2.2 (Nat.pow_le_pow_right (by decide) (by omega))
theorem db_quo {L T0 P : Nat} {x y : Dyadic} {p : Int} (d1 : DB L T0 x) (d2 : DB L T0 y) (hp1 : -(P : Int) ≤ p) (hp2 : p ≤ P) : DB P (2 * (L + T0) + 2 * P) (quoD x y p) := by
  have h := quoM_lt (P := P) d1 d2 hp2
  unfold quoD
  split
  · exact db_raw (S := 2 * (L + T0) + P) (Nat.lt_of_le_of_lt (Int.natAbs_ediv_le_natAbs _ _) (by rw [Int.natAbs_neg]; exact h)) (by omega) (by omega)
  · exact db_raw (S := 2 * (L + T0) + P) (Nat.lt_of_le_of_lt (Int.natAbs_ediv_le_natAbs _ _) h) (by omega) (by omega)
theorem sQuo_any {b c : Bool} {s t : ByteArray} {e f : Int} {x y : Dyadic} {L T0 P : Nat} (p : Int) (w : World) (n1 : ND b s e x) (n2 : ND c t f y) (d1 : DB L T0 x) (d2 : DB L T0 y) (hLT : 2 * (L + T0) + 3 * P ≤ 3000000) (hp1 : -(P : Int) ≤ p) (hp2 : p ≤ P) (hT : TabAt 0 Lib.deBruijn64tab w) :
    Calls Tryz.prog 23 #[.agg #[.bool b, .string s, .int .i64 e], .agg #[.bool c, .string t, .int .i64 f], .int .i64 p] w fun r w' => r = .returned (if y = 0 then .tuple #[.agg #[.bool false, .string ⟨#[]⟩, .int .i64 0, .bool false, .string ⟨#[]⟩, .int .i64 0], .int .i64 1] else .tuple #[.agg #[.bool (neg (dm (quoD x y p))), .string (mag (dm (quoD x y p))), .int .i64 (de (quoD x y p)), .bool (neg (dm (-quoD (-x) y p))), .string (mag (dm (-quoD (-x) y p))), .int .i64 (de (-quoD (-x) y p))], .int .i64 0]) ∧ Below w.heap.size w w' := by
  have cF := Lib.hid (fun W (hT : TabAt 0 Lib.deBruijn64tab W) => dForm_any s b e W (Nat.le_trans n1.size (by decide)) (by have := n1.lo; omega) (by have := n1.hi; omega) hT)
  have cG := Lib.hid (fun W (hT : TabAt 0 Lib.deBruijn64tab W) => dForm_any t c f W (Nat.le_trans n2.size (by decide)) (by have := n2.lo; omega) (by have := n2.hi; omega) hT)
  rw [n1.val] at cF
  rw [n2.val] at cG
  have cS := Lib.hid (fun W => dSign_any (mag (dm y)) (neg (dm y)) (de y) W)
  rw [ival_mk, dy_dm] at cS
  by_cases hy : y = 0
  · rw [if_pos hy]
    exact sQuo_zero s t b c e f p _ x y w (dsgn_eq.2 hy) hT cF cG cS
  · rw [if_neg hy]
    have dq := db_quo (P := P) (db_neg d1) d2 hp1 hp2
    exact sQuo_some s t b c e f p _ x y _ _ _ _ w (fun h => hy (dsgn_eq.1 h)) hT cF cG cS (Lib.hid fun W h => sBelow_any p W d1 d2 hy (by omega) (by omega) (by omega) h) (dNeg_vn d1 (by omega))
      (Lib.hid fun W h => sBelow_any p W (db_neg d1) d2 hy (by omega) (by omega) (by omega) h) (dNeg_vn dq (by omega))

end Go.Proofs.YtchfglbkiebfpaaGreatDoor

namespace Go.Proofs.YtchfglbkiebfpaaGreatDoor
open Go.RowKit

/-- A []api.Span's first n elements. -/
def RdS (w : World) (A : Option Addr) (n : Nat) (bs : Nat → Bool) (ss : Nat → ByteArray) (es : Nat → Int) (cs : Nat → Bool) (ts : Nat → ByteArray) (fs : Nat → Int) : Prop :=
  0 < n → ∃ b off, A = some ⟨b, off, none⟩ ∧ ∀ j, j < n → w.cell? ⟨b, off + j * 6, none⟩ = some (.bool (bs j)) ∧ w.cell? ⟨b, off + j * 6 + 1, none⟩ = some (.string (ss j)) ∧ w.cell? ⟨b, off + j * 6 + 2, none⟩ = some (.int .i64 (es j)) ∧
    w.cell? ⟨b, off + j * 6 + 3, none⟩ = some (.bool (cs j)) ∧ w.cell? ⟨b, off + j * 6 + 4, none⟩ = some (.string (ts j)) ∧ w.cell? ⟨b, off + j * 6 + 5, none⟩ = some (.int .i64 (fs j))
theorem Bx.far6 {w : World} {g g' : Nat} {t : TypeId} {cs : Array Value} (h : Bx w g t cs) (hp : g ≠ g') (x0 x1 x2 x3 x4 x5 : Value) : Bx ((((((w.setCell ⟨g', 0, none⟩ x0).setCell ⟨g', 1, none⟩ x1).setCell ⟨g', 2, none⟩ x2).setCell ⟨g', 3, none⟩ x3).setCell ⟨g', 4, none⟩ x4).setCell ⟨g', 5, none⟩ x5) g t cs :=
  ((h.far3 (i := 0) (j := 1) (k := 2) hp x0 x1 x2).far3 (i := 3) (j := 4) (k := 5) hp x3 x4 x5)

set_option maxRecDepth 100000 in
set_option maxHeartbeats 1000000 in
theorem sAdd_any (A : Option Addr) (n c : Nat) (bs cs : Nat → Bool) (ss ts : Nat → ByteArray) (es fs : Nat → Int) (xs ys : Nat → Dyadic) (L0 T0 : Nat) (w : World) (hn : n ≤ 1000000) (hx : ∀ j, ND (bs j) (ss j) (es j) (xs j)) (hy : ∀ j, ND (cs j) (ts j) (fs j) (ys j)) (hdx : ∀ j, DB L0 T0 (xs j)) (hdy : ∀ j, DB L0 T0 (ys j)) (hLT : L0 + T0 + n ≤ 3000000) (hr : RdS w A n bs ss es cs ts fs) (hT : TabAt 0 Lib.deBruijn64tab w) :
    Calls Tryz.prog 16 #[.slice A n c] w fun r w' => r = .returned (.agg #[.bool (neg (dm (sumD (fun j => dmin (xs j) (ys j)) n))), .string (mag (dm (sumD (fun j => dmin (xs j) (ys j)) n))), .int .i64 (de (sumD (fun j => dmin (xs j) (ys j)) n)), .bool (neg (dm (sumD (fun j => dmax (xs j) (ys j)) n))), .string (mag (dm (sumD (fun j => dmax (xs j) (ys j)) n))), .int .i64 (de (sumD (fun j => dmax (xs j) (ys j)) n))]) ∧ Below w.heap.size w w' := by
  have HT := Lib.hid hT
  have HX := Lib.hid hx
  have HY := Lib.hid hy
  have HDL := Lib.hid (fun j => db_dmin (hdx j) (hdy j))
  have HDH := Lib.hid (fun j => db_dmax (hdx j) (hdy j))
  clear hT hx hy hdx hdy
  go_enter Tryz.func16, Tryz.ntmps16
  have X1 := (Bx.new w 27 #[.bool false, .string ⟨#[]⟩, .int .i64 0, .bool false, .string ⟨#[]⟩, .int .i64 0]).alloc (.cells #[.bool false, .string ⟨#[]⟩, .int .i64 0, .bool false, .string ⟨#[]⟩, .int .i64 0] 27)
  have X2 := Bx.at1 w (.cells #[.bool false, .string ⟨#[]⟩, .int .i64 0, .bool false, .string ⟨#[]⟩, .int .i64 0] 27) 27 #[.bool false, .string ⟨#[]⟩, .int .i64 0, .bool false, .string ⟨#[]⟩, .int .i64 0]
  have hB := b2 w (.cells #[.bool false, .string ⟨#[]⟩, .int .i64 0, .bool false, .string ⟨#[]⟩, .int .i64 0] 27) (.cells #[.bool false, .string ⟨#[]⟩, .int .i64 0, .bool false, .string ⟨#[]⟩, .int .i64 0] 27)
  go_wp2_with fail
  generalize (w.alloc (.cells #[.bool false, .string ⟨#[]⟩, .int .i64 0, .bool false, .string ⟨#[]⟩, .int .i64 0] 27)).alloc (.cells #[.bool false, .string ⟨#[]⟩, .int .i64 0, .bool false, .string ⟨#[]⟩, .int .i64 0] 27) = w0 at *
  go_loopw [9] (fun i wr => ∃ k : Nat, k ≤ n ∧ i = .int .i64 (k : Nat) ∧ Bx wr w.heap.size 27 #[.bool false, .string ⟨#[]⟩, .int .i64 0, .bool false, .string ⟨#[]⟩, .int .i64 0] ∧ Bx wr (w.heap.size + 1) 27 #[.bool (neg (dm (sumD (fun j => dmin (xs j) (ys j)) k))), .string (mag (dm (sumD (fun j => dmin (xs j) (ys j)) k))), .int .i64 (de (sumD (fun j => dmin (xs j) (ys j)) k)), .bool (neg (dm (sumD (fun j => dmax (xs j) (ys j)) k))), .string (mag (dm (sumD (fun j => dmax (xs j) (ys j)) k))), .int .i64 (de (sumD (fun j => dmax (xs j) (ys j)) k))] ∧ Below w.heap.size w wr) (fun i _ => n - (intOf i).toNat)
  case atStart => exact ⟨0, Nat.zero_le _, rfl, X1, X2, hB⟩
  case round =>
    obtain ⟨k, hk, rfl, Y1, Y2, hB2⟩ := hrel
    by_cases hlt : k < n
    · obtain ⟨b, off, rfl, hc⟩ := hr (by omega)
      obtain ⟨c1, c2, c3, c4, c5, c6⟩ := hc k hlt
      have g1 := cell_later hB2 c1
      have g2 := cell_later hB2 c2
      have g3 := cell_later hB2 c3
      have g4 := cell_later hB2 c4
      have g5 := cell_later hB2 c5
      have g7 := cell_later hB2 c6
      clear hc hr c1 c2 c3 c4 c5 c6 X1 X2 hB
      have cO := Lib.hid (fun W h => sof_any W (HX.out k) (HY.out k) h)
      have dl := db_sum HDL.out k
      have dh := db_sum HDH.out k
      have dl' := db_up (L' := L0) (T' := T0 + k) (HDL.out k) (Nat.le_refl _) (by omega)
      have dh' := db_up (L' := L0) (T' := T0 + k) (HDH.out k) (Nat.le_refl _) (by omega)
      have cA1 := Lib.hid (fun g W h (hx : Bx W g 25 #[.bool (neg (dm (sumD (fun j => dmin (xs j) (ys j)) k))), .string (mag (dm (sumD (fun j => dmin (xs j) (ys j)) k))), .int .i64 (de (sumD (fun j => dmin (xs j) (ys j)) k)), .bool (neg (dm (dmin (xs k) (ys k)))), .string (mag (dm (dmin (xs k) (ys k)))), .int .i64 (de (dmin (xs k) (ys k)))]) => dAdd2N (nd_db dl (by omega)) (nd_db dl' (by omega)) dl dl' (by omega) h hx)
      have cA2 := Lib.hid (fun g W h (hx : Bx W g 25 #[.bool (neg (dm (sumD (fun j => dmax (xs j) (ys j)) k))), .string (mag (dm (sumD (fun j => dmax (xs j) (ys j)) k))), .int .i64 (de (sumD (fun j => dmax (xs j) (ys j)) k)), .bool (neg (dm (dmax (xs k) (ys k)))), .string (mag (dm (dmax (xs k) (ys k)))), .int .i64 (de (dmax (xs k) (ys k)))]) => dAdd2N (nd_db dh (by omega)) (nd_db dh' (by omega)) dh dh' (by omega) h hx)
      obtain ⟨lo1, hlo⟩ : ∃ z, z = sumD (fun j => dmin (xs j) (ys j)) k + dmin (xs k) (ys k) := ⟨_, rfl⟩
      obtain ⟨hi1, hhi⟩ : ∃ z, z = sumD (fun j => dmax (xs j) (ys j)) k + dmax (xs k) (ys k) := ⟨_, rfl⟩
      rw [← hlo] at cA1
      rw [← hhi] at cA2
      have HL := Lib.hid (show sumD (fun j => dmin (xs j) (ys j)) (k + 1) = lo1 from hlo.symm)
      have HH := Lib.hid (show sumD (fun j => dmax (xs j) (ys j)) (k + 1) = hi1 from hhi.symm)
      clear dl dh dl' dh' hlo hhi
      have Z3 := Bx.new wr 27 #[.bool (bs k), .string (ss k), .int .i64 (es k), .bool (cs k), .string (ts k), .int .i64 (fs k)]
      have Z1 := Y1.alloc (.cells #[.bool (bs k), .string (ss k), .int .i64 (es k), .bool (cs k), .string (ts k), .int .i64 (fs k)] 27)
      have Z2 := Y2.alloc (.cells #[.bool (bs k), .string (ss k), .int .i64 (es k), .bool (cs k), .string (ts k), .int .i64 (fs k)] 27)
      have hB3 := nxtA hB2 (.cells #[.bool (bs k), .string (ss k), .int .i64 (es k), .bool (cs k), .string (ts k), .int .i64 (fs k)] 27)
      obtain ⟨r1, r2, r3, r4, r5, r6, _, _, _, _, _, _⟩ := Z3.six
      clear Y1 Y2 hB2
      go_wp2_with fail
      generalize wr.alloc (.cells #[.bool (bs k), .string (ss k), .int .i64 (es k), .bool (cs k), .string (ts k), .int .i64 (fs k)] 27) = w4 at *
      refine (cO.out _ (tab_keep HT.out hB3)).mono ?_
      rintro e w5 ⟨rfl, hb⟩
      replace Z1 := Z1.later hb
      replace Z2 := Z2.later hb
      replace hB3 := nxt hB3 hb
      clear hb r1 r2 r3 r4 r5 r6 Z3 g1 g2 g3 g4 g5 g7
      have Z4 := Bx.new w5 88 #[.bool (neg (dm (dmin (xs k) (ys k)))), .string (mag (dm (dmin (xs k) (ys k)))), .int .i64 (de (dmin (xs k) (ys k))), .bool (neg (dm (dmax (xs k) (ys k)))), .string (mag (dm (dmax (xs k) (ys k)))), .int .i64 (de (dmax (xs k) (ys k)))]
      replace Z1 := Z1.alloc (.cells #[.bool (neg (dm (dmin (xs k) (ys k)))), .string (mag (dm (dmin (xs k) (ys k)))), .int .i64 (de (dmin (xs k) (ys k))), .bool (neg (dm (dmax (xs k) (ys k)))), .string (mag (dm (dmax (xs k) (ys k)))), .int .i64 (de (dmax (xs k) (ys k)))] 88)
      replace Z2 := Z2.alloc (.cells #[.bool (neg (dm (dmin (xs k) (ys k)))), .string (mag (dm (dmin (xs k) (ys k)))), .int .i64 (de (dmin (xs k) (ys k))), .bool (neg (dm (dmax (xs k) (ys k)))), .string (mag (dm (dmax (xs k) (ys k)))), .int .i64 (de (dmax (xs k) (ys k)))] 88)
      replace hB3 := nxtA hB3 (.cells #[.bool (neg (dm (dmin (xs k) (ys k)))), .string (mag (dm (dmin (xs k) (ys k)))), .int .i64 (de (dmin (xs k) (ys k))), .bool (neg (dm (dmax (xs k) (ys k)))), .string (mag (dm (dmax (xs k) (ys k)))), .int .i64 (de (dmax (xs k) (ys k)))] 88)
      have HK := Lib.hid (And.intro Z1 (And.intro Z2 (And.intro Z4 hB3)))
      clear Z1 Z2 Z4 hB3
      go_upto_region 6 with (fail)
      obtain ⟨Z1, Z2, Z4, hB3⟩ := HK.out
      clear HK
      generalize w5.alloc (.cells #[.bool (neg (dm (dmin (xs k) (ys k)))), .string (mag (dm (dmin (xs k) (ys k)))), .int .i64 (de (dmin (xs k) (ys k))), .bool (neg (dm (dmax (xs k) (ys k)))), .string (mag (dm (dmax (xs k) (ys k)))), .int .i64 (de (dmax (xs k) (ys k)))] 88) = w6 at *
      generalize w5.heap.size = g6 at *
      refine wp_region_k [15, 16, 17, 18, 19, 20, 21, 22, 23, 24, 25, 26, 27, 28, 29] [.eq (.pointer (some ⟨w.heap.size + 1, 0, none⟩)), .eq (.agg #[.bool (neg (dm (sumD (fun j => dmin (xs j) (ys j)) k))), .string (mag (dm (sumD (fun j => dmin (xs j) (ys j)) k))), .int .i64 (de (sumD (fun j => dmin (xs j) (ys j)) k))]), .eq (.pointer (some ⟨g6, 0, none⟩)), .eq (.pointer (some ⟨g6, 0, none⟩)), .eq (.agg #[.bool (neg (dm (dmin (xs k) (ys k)))), .string (mag (dm (dmin (xs k) (ys k)))), .int .i64 (de (dmin (xs k) (ys k)))]), .sli w6.heap.size 25 2 #[.bool (neg (dm (sumD (fun j => dmin (xs j) (ys j)) k))), .string (mag (dm (sumD (fun j => dmin (xs j) (ys j)) k))), .int .i64 (de (sumD (fun j => dmin (xs j) (ys j)) k)), .bool (neg (dm (dmin (xs k) (ys k)))), .string (mag (dm (dmin (xs k) (ys k)))), .int .i64 (de (dmin (xs k) (ys k)))], .eq (.agg #[.bool (neg (dm (lo1))), .string (mag (dm (lo1))), .int .i64 (de (lo1))]), .eq (.pointer (some ⟨w.heap.size + 1, 3, none⟩)), .eq (.agg #[.bool (neg (dm (sumD (fun j => dmax (xs j) (ys j)) k))), .string (mag (dm (sumD (fun j => dmax (xs j) (ys j)) k))), .int .i64 (de (sumD (fun j => dmax (xs j) (ys j)) k))]), .eq (.pointer (some ⟨g6, 0, none⟩)), .eq (.pointer (some ⟨g6, 3, none⟩)), .eq (.agg #[.bool (neg (dm (dmax (xs k) (ys k)))), .string (mag (dm (dmax (xs k) (ys k)))), .int .i64 (de (dmax (xs k) (ys k)))]), .sli w6.heap.size 25 2 #[.bool (neg (dm (sumD (fun j => dmax (xs j) (ys j)) k))), .string (mag (dm (sumD (fun j => dmax (xs j) (ys j)) k))), .int .i64 (de (sumD (fun j => dmax (xs j) (ys j)) k)), .bool (neg (dm (dmax (xs k) (ys k)))), .string (mag (dm (dmax (xs k) (ys k)))), .int .i64 (de (dmax (xs k) (ys k)))], .eq (.agg #[.bool (neg (dm (hi1))), .string (mag (dm (hi1))), .int .i64 (de (hi1))]), .eq (.agg #[.bool (neg (dm (lo1))), .string (mag (dm (lo1))), .int .i64 (de (lo1)), .bool (neg (dm (hi1))), .string (mag (dm (hi1))), .int .i64 (de (hi1))])] 32 (by kernel_rfl) (by exact fun _ _ _ _ _ h => h) (by kernel_rfl) (by rfl) ?hop ?htail
      case hop =>
        intro A hA
        have hN : A.tmps.size = 32 := by rw [hA]; rfl
        have q3 : A.tmps.getD 3 undef = .pointer (some ⟨w.heap.size + 1, 0, none⟩) := by rw [hA]; rfl
        have q6 : A.tmps.getD 6 undef = .pointer (some ⟨g6, 0, none⟩) := by rw [hA]; rfl
        clear hA
        refine ⟨?_, ?_, ?_, ?_, ?_, ?_, ?_, ?_, ?_, ?_, ?_, ?_, ?_, ?_, ?_, trivial⟩
        · refine kok hN fun u W ev ec ef E B hG hf => ?_
          exact k_val _ rfl rfl hG (by simp [go_sem, B 3 rfl rfl q3]) rfl
        · refine kok hN fun u W ev ec ef E B hG hf => ?_
          exact k_val _ rfl rfl hG (by simp [go_sem, E 15 0 rfl rfl (hf 0 rfl), (Z2.later hG).cel]) rfl
        · refine kok hN fun u W ev ec ef E B hG hf => ?_
          exact k_val _ rfl rfl hG (by simp [go_sem, B 6 rfl rfl q6]) rfl
        · refine kok hN fun u W ev ec ef E B hG hf => ?_
          exact k_val _ rfl rfl hG (by simp [go_sem, E 17 2 rfl rfl (hf 2 rfl)]) rfl
        · refine kok hN fun u W ev ec ef E B hG hf => ?_
          exact k_val _ rfl rfl hG (by simp [go_sem, E 18 3 rfl rfl (hf 3 rfl), (Z4.later hG).cel]) rfl
        · refine kok hN fun u W ev ec ef E B hG hf => ?_
          exact k_new _ _ rfl (by simp [go_sem, E 16 1 rfl rfl (hf 1 rfl), E 19 4 rfl rfl (hf 4 rfl)]) (nxtA hG _) ⟨_, rfl, below_le hG, Bx.new _ _ _⟩ rfl
        · refine kok hN fun u W ev ec ef E B hG hf => ?_
          obtain ⟨g20, f20, hb20, hx20⟩ := hf 5 rfl
          exact k_cl rfl rfl (by simp [go_sem, ef, E 20 5 rfl rfl f20]) (cA1.out _ W (tab_keep HT.out (nxt hB3 hG)) hx20) hG (fun _ _ => rfl)
        · refine kok hN fun u W ev ec ef E B hG hf => ?_
          exact k_val _ rfl rfl hG (by simp [go_sem, B 3 rfl rfl q3]) rfl
        · refine kok hN fun u W ev ec ef E B hG hf => ?_
          exact k_val _ rfl rfl hG (by simp [go_sem, E 22 7 rfl rfl (hf 7 rfl), (Z2.later hG).cel]) rfl
        · refine kok hN fun u W ev ec ef E B hG hf => ?_
          exact k_val _ rfl rfl hG (by simp [go_sem, B 6 rfl rfl q6]) rfl
        · refine kok hN fun u W ev ec ef E B hG hf => ?_
          exact k_val _ rfl rfl hG (by simp [go_sem, E 24 9 rfl rfl (hf 9 rfl)]) rfl
        · refine kok hN fun u W ev ec ef E B hG hf => ?_
          exact k_val _ rfl rfl hG (by simp [go_sem, E 25 10 rfl rfl (hf 10 rfl), (Z4.later hG).cel]) rfl
        · refine kok hN fun u W ev ec ef E B hG hf => ?_
          exact k_new _ _ rfl (by simp [go_sem, E 23 8 rfl rfl (hf 8 rfl), E 26 11 rfl rfl (hf 11 rfl)]) (nxtA hG _) ⟨_, rfl, below_le hG, Bx.new _ _ _⟩ rfl
        · refine kok hN fun u W ev ec ef E B hG hf => ?_
          obtain ⟨g27, f27, hb27, hx27⟩ := hf 12 rfl
          exact k_cl rfl rfl (by simp [go_sem, ef, E 27 12 rfl rfl f27]) (cA2.out _ W (tab_keep HT.out (nxt hB3 hG)) hx27) hG (fun _ _ => rfl)
        · refine kok hN fun u W ev ec ef E B hG hf => ?_
          exact k_val _ rfl rfl hG (by simp [go_sem, E 21 6 rfl rfl (hf 6 rfl), E 28 13 rfl rfl (hf 13 rfl)]) rfl
      case htail =>
        intro u w7 hG hP hD
        have f29 : u 14 = .agg #[.bool (neg (dm (lo1))), .string (mag (dm (lo1))), .int .i64 (de (lo1)), .bool (neg (dm (hi1))), .string (mag (dm (hi1))), .int .i64 (de (hi1))] := hP 14 (by decide)
        simp only [putAll, Act.put, List.setIfInBounds_toArray, List.set_cons_zero, List.set_cons_succ, List.length_cons, List.length_nil, Nat.reduceAdd, List.drop_succ_cons, List.drop_zero, f29]
        replace hB3 := nxt hB3 hG
        replace Z1 := Z1.later hG
        replace Z2 := Z2.later hG
        have HZ := Lib.hid (And.intro Z1 (And.intro Z2 hB3))
        obtain ⟨r1, r2, r3, r4, r5, r6, r7, r8, r9, r10, r11, r12⟩ := Z2.six
        clear hP hD hG f29 Z1 Z2 Z4 hB3
        go_wp2
        obtain ⟨Z1, Z2, hB3⟩ := HZ.out
        exact ⟨⟨k + 1, hlt, by go_num, Bx.far6 Z1 (by simp) _ _ _ _ _ _, by rw [HL.out, HH.out]; exact Z2.set6 _ _ _ _ _ _, st6 hB3 (Nat.le_add_right _ 1) _ _ _ _ _ _⟩, by simp [intOf]; omega⟩
    · obtain rfl : k = n := by omega
      obtain ⟨p1, p2, p3, p4, p5, p6, p7, p8, p9, p10, p11, p12⟩ := Y1.six
      obtain ⟨r1, r2, r3, r4, r5, r6, _, _, _, _, _, _⟩ := Y2.six
      have HY1 := Lib.hid Y1
      clear Y1 Y2 X1 X2 hB
      go_wp2_with fail
      exact bodyPost_ret (v := .agg #[.bool (neg (dm (sumD (fun j => dmin (xs j) (ys j)) k))), .string (mag (dm (sumD (fun j => dmin (xs j) (ys j)) k))), .int .i64 (de (sumD (fun j => dmin (xs j) (ys j)) k)), .bool (neg (dm (sumD (fun j => dmax (xs j) (ys j)) k))), .string (mag (dm (sumD (fun j => dmax (xs j) (ys j)) k))), .int .i64 (de (sumD (fun j => dmax (xs j) (ys j)) k))]) (by simp [results, Tryz.results16, go_sem, (HY1.out.set6 _ _ _ _ _ _).cel]) rfl ⟨rfl, st6 hB2 (Nat.le_refl _) _ _ _ _ _ _⟩

end Go.Proofs.YtchfglbkiebfpaaGreatDoor

namespace Go.Proofs.YtchfglbkiebfpaaGreatDoor
open Go.RowKit

theorem dMin2N {b c : Bool} {s t : ByteArray} {e f : Int} {x y : Dyadic} {g : Nat} {w : World} (n1 : ND b s e x) (n2 : ND c t f y) (hT : TabAt 0 Lib.deBruijn64tab w) (h : Bx w g 25 #[.bool b, .string s, .int .i64 e, .bool c, .string t, .int .i64 f]) :
    Calls Tryz.prog 91 #[.slice (some ⟨g, 0, none⟩) 2 2] w fun r w' => r = .returned (.agg #[.bool (neg (dm (dmin x y))), .string (mag (dm (dmin x y))), .int .i64 (de (dmin x y))]) ∧ Below w.heap.size w w' := by
  have h := dMin_any _ 2 2 _ _ _ (fun j => if j = 0 then x else y) w (by decide) (fun j => by by_cases h0 : j = 0 <;> simp only [h0, if_true, if_false] <;> assumption) (rdN2B h) hT
  rwa [min2] at h
theorem dMax2N {b c : Bool} {s t : ByteArray} {e f : Int} {x y : Dyadic} {g : Nat} {w : World} (n1 : ND b s e x) (n2 : ND c t f y) (hT : TabAt 0 Lib.deBruijn64tab w) (h : Bx w g 25 #[.bool b, .string s, .int .i64 e, .bool c, .string t, .int .i64 f]) :
    Calls Tryz.prog 92 #[.slice (some ⟨g, 0, none⟩) 2 2] w fun r w' => r = .returned (.agg #[.bool (neg (dm (dmax x y))), .string (mag (dm (dmax x y))), .int .i64 (de (dmax x y))]) ∧ Below w.heap.size w w' := by
  have h := dMax_any _ 2 2 _ _ _ (fun j => if j = 0 then x else y) w (by decide) (fun j => by by_cases h0 : j = 0 <;> simp only [h0, if_true, if_false] <;> assumption) (rdN2B h) hT
  rwa [max2] at h

set_option maxRecDepth 100000 in
set_option maxHeartbeats 1000000 in
theorem sMeet_none (s t s' t' : ByteArray) (b c b' c' : Bool) (e f e' f' z : Int) (x y x' y' lo hi : Dyadic) (w : World) (hz : 0 < z) (hT : TabAt 0 Lib.deBruijn64tab w)
    (c1 : Hid (∀ W : World, TabAt 0 Lib.deBruijn64tab W → Calls Tryz.prog 72 #[.agg #[.bool b, .string s, .int .i64 e, .bool c, .string t, .int .i64 f]] W fun r w' => r = .returned (.agg #[.bool (neg (dm (x))), .string (mag (dm (x))), .int .i64 (de (x)), .bool (neg (dm (y))), .string (mag (dm (y))), .int .i64 (de (y))]) ∧ Below W.heap.size W w'))
    (c2 : Hid (∀ W : World, TabAt 0 Lib.deBruijn64tab W → Calls Tryz.prog 72 #[.agg #[.bool b', .string s', .int .i64 e', .bool c', .string t', .int .i64 f']] W fun r w' => r = .returned (.agg #[.bool (neg (dm (x'))), .string (mag (dm (x'))), .int .i64 (de (x')), .bool (neg (dm (y'))), .string (mag (dm (y'))), .int .i64 (de (y'))]) ∧ Below W.heap.size W w'))
    (c3 : Hid (∀ (g : Nat) (W : World), TabAt 0 Lib.deBruijn64tab W → Bx W g 25 #[.bool (neg (dm (x))), .string (mag (dm (x))), .int .i64 (de (x)), .bool (neg (dm (x'))), .string (mag (dm (x'))), .int .i64 (de (x'))] → Calls Tryz.prog 92 #[.slice (some ⟨g, 0, none⟩) 2 2] W fun r w' => r = .returned (.agg #[.bool (neg (dm (lo))), .string (mag (dm (lo))), .int .i64 (de (lo))]) ∧ Below W.heap.size W w'))
    (c4 : Hid (∀ (g : Nat) (W : World), TabAt 0 Lib.deBruijn64tab W → Bx W g 25 #[.bool (neg (dm (y))), .string (mag (dm (y))), .int .i64 (de (y)), .bool (neg (dm (y'))), .string (mag (dm (y'))), .int .i64 (de (y'))] → Calls Tryz.prog 91 #[.slice (some ⟨g, 0, none⟩) 2 2] W fun r w' => r = .returned (.agg #[.bool (neg (dm (hi))), .string (mag (dm (hi))), .int .i64 (de (hi))]) ∧ Below W.heap.size W w'))
    (c5 : Hid (∀ W : World, TabAt 0 Lib.deBruijn64tab W → Calls Tryz.prog 51 #[.agg #[.bool (neg (dm (lo))), .string (mag (dm (lo))), .int .i64 (de (lo))], .agg #[.bool (neg (dm (hi))), .string (mag (dm (hi))), .int .i64 (de (hi))]] W fun r w' => r = .returned (.int .i64 z) ∧ Below W.heap.size W w'))
    :
    Calls Tryz.prog 30 #[.agg #[.bool b, .string s, .int .i64 e, .bool c, .string t, .int .i64 f], .agg #[.bool b', .string s', .int .i64 e', .bool c', .string t', .int .i64 f']] w fun r w' => r = .returned (.tuple #[.agg #[.bool false, .string ⟨#[]⟩, .int .i64 0, .bool false, .string ⟨#[]⟩, .int .i64 0], .int .i64 4]) ∧ Below w.heap.size w w' := by
  have HT := Lib.hid hT
  clear hT
  go_enter Tryz.func30, Tryz.ntmps30
  go_upto_region 1 with (fail)
  have X1 := ((Bx.new w 27 #[.bool b, .string s, .int .i64 e, .bool c, .string t, .int .i64 f]).alloc (.cells #[.bool b', .string s', .int .i64 e', .bool c', .string t', .int .i64 f'] 27)).alloc (.cells #[.bool false, .string ⟨#[]⟩, .int .i64 0, .bool false, .string ⟨#[]⟩, .int .i64 0] 27)
  have X2 := (Bx.at1 w (.cells #[.bool b, .string s, .int .i64 e, .bool c, .string t, .int .i64 f] 27) 27 #[.bool b', .string s', .int .i64 e', .bool c', .string t', .int .i64 f']).alloc (.cells #[.bool false, .string ⟨#[]⟩, .int .i64 0, .bool false, .string ⟨#[]⟩, .int .i64 0] 27)
  have X3 := Bx.at2 w (.cells #[.bool b, .string s, .int .i64 e, .bool c, .string t, .int .i64 f] 27) (.cells #[.bool b', .string s', .int .i64 e', .bool c', .string t', .int .i64 f'] 27) 27 #[.bool false, .string ⟨#[]⟩, .int .i64 0, .bool false, .string ⟨#[]⟩, .int .i64 0]
  have hB := b3 w (.cells #[.bool b, .string s, .int .i64 e, .bool c, .string t, .int .i64 f] 27) (.cells #[.bool b', .string s', .int .i64 e', .bool c', .string t', .int .i64 f'] 27) (.cells #[.bool false, .string ⟨#[]⟩, .int .i64 0, .bool false, .string ⟨#[]⟩, .int .i64 0] 27)
  generalize ((w.alloc (.cells #[.bool b, .string s, .int .i64 e, .bool c, .string t, .int .i64 f] 27)).alloc (.cells #[.bool b', .string s', .int .i64 e', .bool c', .string t', .int .i64 f'] 27)).alloc (.cells #[.bool false, .string ⟨#[]⟩, .int .i64 0, .bool false, .string ⟨#[]⟩, .int .i64 0] 27) = w0 at *
  have hl0 := X1.lt
  have hl1 := X2.lt
  have hl2 := X3.lt
  refine wp_region_k [10, 11, 12, 13, 6, 7] [.eq (.agg #[.bool b, .string s, .int .i64 e, .bool c, .string t, .int .i64 f]), .eq (.agg #[.bool (neg (dm (x))), .string (mag (dm (x))), .int .i64 (de (x)), .bool (neg (dm (y))), .string (mag (dm (y))), .int .i64 (de (y))]), .eq (.agg #[.bool b', .string s', .int .i64 e', .bool c', .string t', .int .i64 f']), .eq (.agg #[.bool (neg (dm (x'))), .string (mag (dm (x'))), .int .i64 (de (x')), .bool (neg (dm (y'))), .string (mag (dm (y'))), .int .i64 (de (y'))]), .ptr w0.heap.size 88 #[.bool false, .string ⟨#[]⟩, .int .i64 0, .bool false, .string ⟨#[]⟩, .int .i64 0], .ptr w0.heap.size 88 #[.bool false, .string ⟨#[]⟩, .int .i64 0, .bool false, .string ⟨#[]⟩, .int .i64 0]] 38 (by kernel_rfl) (by exact fun _ _ _ _ _ h => h) (by kernel_rfl) (by rfl) ?hop ?htail
  case hop =>
    intro A hA
    have hN : A.tmps.size = 38 := by rw [hA]; rfl
    have q2 : A.tmps.getD 2 undef = .pointer (some ⟨w.heap.size, 0, none⟩) := by rw [hA]; rfl
    have q3 : A.tmps.getD 3 undef = .pointer (some ⟨w.heap.size + 1, 0, none⟩) := by rw [hA]; rfl
    clear hA
    refine ⟨?_, ?_, ?_, ?_, ?_, ?_, trivial⟩
    · refine kok hN fun u W ev ec ef E B hG hf => ?_
      exact k_val _ rfl rfl hG (by simp [go_sem, B 2 rfl rfl q2, (X1.later hG).cel]) rfl
    · refine kok hN fun u W ev ec ef E B hG hf => ?_
      exact k_cl rfl rfl (by simp [go_sem, ef, E 10 0 rfl rfl (hf 0 rfl)]) (c1.out W (tab_keep HT.out (nxt hB hG))) hG (fun _ _ => rfl)
    · refine kok hN fun u W ev ec ef E B hG hf => ?_
      exact k_val _ rfl rfl hG (by simp [go_sem, B 3 rfl rfl q3, (X2.later hG).cel]) rfl
    · refine kok hN fun u W ev ec ef E B hG hf => ?_
      exact k_cl rfl rfl (by simp [go_sem, ef, E 12 2 rfl rfl (hf 2 rfl)]) (c2.out W (tab_keep HT.out (nxt hB hG))) hG (fun _ _ => rfl)
    · refine kok hN fun u W ev ec ef E B hG hf => ?_
      exact k_new _ _ rfl (by simp [go_sem]) (nxtA hG _) ⟨_, rfl, below_le hG, Bx.new _ _ _⟩ rfl
    · refine kok hN fun u W ev ec ef E B hG hf => ?_
      exact k_new _ _ rfl (by simp [go_sem]) (nxtA hG _) ⟨_, rfl, below_le hG, Bx.new _ _ _⟩ rfl
  case htail =>
    intro u w' hG hP hD
    have f11 : u 1 = .agg #[.bool (neg (dm (x))), .string (mag (dm (x))), .int .i64 (de (x)), .bool (neg (dm (y))), .string (mag (dm (y))), .int .i64 (de (y))] := hP 1 (by decide)
    have f13 : u 3 = .agg #[.bool (neg (dm (x'))), .string (mag (dm (x'))), .int .i64 (de (x')), .bool (neg (dm (y'))), .string (mag (dm (y'))), .int .i64 (de (y'))] := hP 3 (by decide)
    obtain ⟨g6, f6, hb6, hx6⟩ : ptrK w0.heap.size 88 #[.bool false, .string ⟨#[]⟩, .int .i64 0, .bool false, .string ⟨#[]⟩, .int .i64 0] (u 4) w' := hP 4 (by decide)
    obtain ⟨g7, f7, hb7, hx7⟩ : ptrK w0.heap.size 88 #[.bool false, .string ⟨#[]⟩, .int .i64 0, .bool false, .string ⟨#[]⟩, .int .i64 0] (u 5) w' := hP 5 (by decide)
    have hne : g6 ≠ g7 := fun e => hD 4 5 (by decide) (by decide) rfl rfl (by decide) (by rw [f6, f7, e])
    simp only [putAll, Act.put, List.setIfInBounds_toArray, List.set_cons_zero, List.set_cons_succ, List.length_cons, List.length_nil, Nat.reduceAdd, List.drop_succ_cons, List.drop_zero, f11, f13, f6, f7]
    have hz1 := hB.size
    have l3 := X3.lt
    have n6 : w.heap.size + 2 ≠ g6 := by omega
    have n7 : w.heap.size + 2 ≠ g7 := by omega
    have h6 : w.heap.size ≤ g6 := Nat.le_trans hz1 hb6
    have h7 : w.heap.size ≤ g7 := Nat.le_trans hz1 hb7
    have Y7 := Bx.far6 hx7 (Ne.symm hne) (.bool (neg (dm (x)))) (.string (mag (dm (x)))) (.int .i64 (de (x))) (.bool (neg (dm (y)))) (.string (mag (dm (y)))) (.int .i64 (de (y)))
    have Z6 := Bx.far6 (hx6.set6 (.bool (neg (dm (x)))) (.string (mag (dm (x)))) (.int .i64 (de (x))) (.bool (neg (dm (y)))) (.string (mag (dm (y)))) (.int .i64 (de (y)))) hne (.bool (neg (dm (x')))) (.string (mag (dm (x')))) (.int .i64 (de (x'))) (.bool (neg (dm (y')))) (.string (mag (dm (y')))) (.int .i64 (de (y')))
    have Z7 := Y7.set6 (.bool (neg (dm (x')))) (.string (mag (dm (x')))) (.int .i64 (de (x'))) (.bool (neg (dm (y')))) (.string (mag (dm (y')))) (.int .i64 (de (y')))
    have Z3 := Bx.far6 (Bx.far6 (X3.later hG) n6 (.bool (neg (dm (x)))) (.string (mag (dm (x)))) (.int .i64 (de (x))) (.bool (neg (dm (y)))) (.string (mag (dm (y)))) (.int .i64 (de (y)))) n7 (.bool (neg (dm (x')))) (.string (mag (dm (x')))) (.int .i64 (de (x'))) (.bool (neg (dm (y')))) (.string (mag (dm (y')))) (.int .i64 (de (y')))
    replace hB := st6 (st6 (nxt hB hG) h6 (.bool (neg (dm (x)))) (.string (mag (dm (x)))) (.int .i64 (de (x))) (.bool (neg (dm (y)))) (.string (mag (dm (y)))) (.int .i64 (de (y)))) h7 (.bool (neg (dm (x')))) (.string (mag (dm (x')))) (.int .i64 (de (x'))) (.bool (neg (dm (y')))) (.string (mag (dm (y')))) (.int .i64 (de (y')))
    obtain ⟨t1, t2, t3, t4, t5, t6, t7, t8, t9, t10, t11, t12⟩ := Y7.six
    obtain ⟨v1, v2, v3, v4, v5, v6, v7, v8, v9, v10, v11, v12⟩ := hx6.six
    have HK := Lib.hid (And.intro Z6 (And.intro Z7 (And.intro Z3 hB)))
    clear Z6 Z7 Z3 hB f11 f13 f6 f7 hP hD hG hb6 hb7 hx6 hx7 hne n6 n7 h6 h7 Y7 X1 X2 X3 hz1 l3
    go_upto_region 2 with (fail)
    obtain ⟨Z6, Z7, Z3, hB⟩ := HK.out
    clear HK t1 t2 t3 t4 t5 t6 t7 t8 t9 t10 t11 t12 v1 v2 v3 v4 v5 v6 v7 v8 v9 v10 v11 v12
    generalize (((((((((((w'.setCell ⟨g6, 0, none⟩ (.bool (neg (dm (x))))).setCell ⟨g6, 1, none⟩ (.string (mag (dm (x))))).setCell ⟨g6, 2, none⟩ (.int .i64 (de (x)))).setCell ⟨g6, 3, none⟩ (.bool (neg (dm (y))))).setCell ⟨g6, 4, none⟩ (.string (mag (dm (y))))).setCell ⟨g6, 5, none⟩ (.int .i64 (de (y)))).setCell ⟨g7, 0, none⟩ (.bool (neg (dm (x'))))).setCell ⟨g7, 1, none⟩ (.string (mag (dm (x'))))).setCell ⟨g7, 2, none⟩ (.int .i64 (de (x')))).setCell ⟨g7, 3, none⟩ (.bool (neg (dm (y'))))).setCell ⟨g7, 4, none⟩ (.string (mag (dm (y'))))).setCell ⟨g7, 5, none⟩ (.int .i64 (de (y'))) = w2 at *
    refine wp_region_k [14, 15, 16, 17, 18, 19, 20, 21, 22, 23, 24, 25, 26, 27, 28, 29, 8, 9] [.eq (.pointer (some ⟨g6, 0, none⟩)), .eq (.pointer (some ⟨g6, 0, none⟩)), .eq (.agg #[.bool (neg (dm (x))), .string (mag (dm (x))), .int .i64 (de (x))]), .eq (.pointer (some ⟨g7, 0, none⟩)), .eq (.pointer (some ⟨g7, 0, none⟩)), .eq (.agg #[.bool (neg (dm (x'))), .string (mag (dm (x'))), .int .i64 (de (x'))]), .sli w2.heap.size 25 2 #[.bool (neg (dm (x))), .string (mag (dm (x))), .int .i64 (de (x)), .bool (neg (dm (x'))), .string (mag (dm (x'))), .int .i64 (de (x'))], .eq (.agg #[.bool (neg (dm (lo))), .string (mag (dm (lo))), .int .i64 (de (lo))]), .eq (.pointer (some ⟨g6, 0, none⟩)), .eq (.pointer (some ⟨g6, 3, none⟩)), .eq (.agg #[.bool (neg (dm (y))), .string (mag (dm (y))), .int .i64 (de (y))]), .eq (.pointer (some ⟨g7, 0, none⟩)), .eq (.pointer (some ⟨g7, 3, none⟩)), .eq (.agg #[.bool (neg (dm (y'))), .string (mag (dm (y'))), .int .i64 (de (y'))]), .sli w2.heap.size 25 2 #[.bool (neg (dm (y))), .string (mag (dm (y))), .int .i64 (de (y)), .bool (neg (dm (y'))), .string (mag (dm (y'))), .int .i64 (de (y'))], .eq (.agg #[.bool (neg (dm (hi))), .string (mag (dm (hi))), .int .i64 (de (hi))]), .ptr w2.heap.size 25 #[.bool false, .string ⟨#[]⟩, .int .i64 0], .ptr w2.heap.size 25 #[.bool false, .string ⟨#[]⟩, .int .i64 0]] 38 (by kernel_rfl) (by exact fun _ _ _ _ _ h => h) (by kernel_rfl) (by rfl) ?hop ?htail
    case hop =>
      intro A hA
      have hN : A.tmps.size = 38 := by rw [hA]; rfl
      have q6 : A.tmps.getD 6 undef = .pointer (some ⟨g6, 0, none⟩) := by rw [hA]; rfl
      have q7 : A.tmps.getD 7 undef = .pointer (some ⟨g7, 0, none⟩) := by rw [hA]; rfl
      clear hA
      refine ⟨?_, ?_, ?_, ?_, ?_, ?_, ?_, ?_, ?_, ?_, ?_, ?_, ?_, ?_, ?_, ?_, ?_, ?_, trivial⟩
      · refine kok hN fun u W ev ec ef E B hG hf => ?_
        exact k_val _ rfl rfl hG (by simp [go_sem, B 6 rfl rfl q6]) rfl
      · refine kok hN fun u W ev ec ef E B hG hf => ?_
        exact k_val _ rfl rfl hG (by simp [go_sem, E 14 0 rfl rfl (hf 0 rfl)]) rfl
      · refine kok hN fun u W ev ec ef E B hG hf => ?_
        exact k_val _ rfl rfl hG (by simp [go_sem, E 15 1 rfl rfl (hf 1 rfl), (Z6.later hG).cel]) rfl
      · refine kok hN fun u W ev ec ef E B hG hf => ?_
        exact k_val _ rfl rfl hG (by simp [go_sem, B 7 rfl rfl q7]) rfl
      · refine kok hN fun u W ev ec ef E B hG hf => ?_
        exact k_val _ rfl rfl hG (by simp [go_sem, E 17 3 rfl rfl (hf 3 rfl)]) rfl
      · refine kok hN fun u W ev ec ef E B hG hf => ?_
        exact k_val _ rfl rfl hG (by simp [go_sem, E 18 4 rfl rfl (hf 4 rfl), (Z7.later hG).cel]) rfl
      · refine kok hN fun u W ev ec ef E B hG hf => ?_
        exact k_new _ _ rfl (by simp [go_sem, E 16 2 rfl rfl (hf 2 rfl), E 19 5 rfl rfl (hf 5 rfl)]) (nxtA hG _) ⟨_, rfl, below_le hG, Bx.new _ _ _⟩ rfl
      · refine kok hN fun u W ev ec ef E B hG hf => ?_
        obtain ⟨g20, f20, hb20, hx20⟩ := hf 6 rfl
        exact k_cl rfl rfl (by simp [go_sem, ef, E 20 6 rfl rfl f20]) (c3.out _ W (tab_keep HT.out (nxt hB hG)) hx20) hG (fun _ _ => rfl)
      · refine kok hN fun u W ev ec ef E B hG hf => ?_
        exact k_val _ rfl rfl hG (by simp [go_sem, B 6 rfl rfl q6]) rfl
      · refine kok hN fun u W ev ec ef E B hG hf => ?_
        exact k_val _ rfl rfl hG (by simp [go_sem, E 22 8 rfl rfl (hf 8 rfl)]) rfl
      · refine kok hN fun u W ev ec ef E B hG hf => ?_
        exact k_val _ rfl rfl hG (by simp [go_sem, E 23 9 rfl rfl (hf 9 rfl), (Z6.later hG).cel]) rfl
      · refine kok hN fun u W ev ec ef E B hG hf => ?_
        exact k_val _ rfl rfl hG (by simp [go_sem, B 7 rfl rfl q7]) rfl
      · refine kok hN fun u W ev ec ef E B hG hf => ?_
        exact k_val _ rfl rfl hG (by simp [go_sem, E 25 11 rfl rfl (hf 11 rfl)]) rfl
      · refine kok hN fun u W ev ec ef E B hG hf => ?_
        exact k_val _ rfl rfl hG (by simp [go_sem, E 26 12 rfl rfl (hf 12 rfl), (Z7.later hG).cel]) rfl
      · refine kok hN fun u W ev ec ef E B hG hf => ?_
        exact k_new _ _ rfl (by simp [go_sem, E 24 10 rfl rfl (hf 10 rfl), E 27 13 rfl rfl (hf 13 rfl)]) (nxtA hG _) ⟨_, rfl, below_le hG, Bx.new _ _ _⟩ rfl
      · refine kok hN fun u W ev ec ef E B hG hf => ?_
        obtain ⟨g28, f28, hb28, hx28⟩ := hf 14 rfl
        exact k_cl rfl rfl (by simp [go_sem, ef, E 28 14 rfl rfl f28]) (c4.out _ W (tab_keep HT.out (nxt hB hG)) hx28) hG (fun _ _ => rfl)
      · refine kok hN fun u W ev ec ef E B hG hf => ?_
        exact k_new _ _ rfl (by simp [go_sem]) (nxtA hG _) ⟨_, rfl, below_le hG, Bx.new _ _ _⟩ rfl
      · refine kok hN fun u W ev ec ef E B hG hf => ?_
        exact k_new _ _ rfl (by simp [go_sem]) (nxtA hG _) ⟨_, rfl, below_le hG, Bx.new _ _ _⟩ rfl
    case htail =>
      intro u w3 hG hP hD
      have f21 : u 7 = .agg #[.bool (neg (dm (lo))), .string (mag (dm (lo))), .int .i64 (de (lo))] := hP 7 (by decide)
      have f29 : u 15 = .agg #[.bool (neg (dm (hi))), .string (mag (dm (hi))), .int .i64 (de (hi))] := hP 15 (by decide)
      obtain ⟨g8, f8, hb8, hx8⟩ : ptrK w2.heap.size 25 #[.bool false, .string ⟨#[]⟩, .int .i64 0] (u 16) w3 := hP 16 (by decide)
      obtain ⟨g9, f9, hb9, hx9⟩ : ptrK w2.heap.size 25 #[.bool false, .string ⟨#[]⟩, .int .i64 0] (u 17) w3 := hP 17 (by decide)
      have hne : g8 ≠ g9 := fun e => hD 16 17 (by decide) (by decide) rfl rfl (by decide) (by rw [f8, f9, e])
      simp only [putAll, Act.put, List.setIfInBounds_toArray, List.set_cons_zero, List.set_cons_succ, List.length_cons, List.length_nil, Nat.reduceAdd, List.drop_succ_cons, List.drop_zero, f21, f29, f8, f9]
      have hz1 := hB.size
      have l3 := Z3.lt
      have n8 : w.heap.size + 2 ≠ g8 := by omega
      have n9 : w.heap.size + 2 ≠ g9 := by omega
      have h8 : w.heap.size ≤ g8 := Nat.le_trans hz1 hb8
      have h9 : w.heap.size ≤ g9 := Nat.le_trans hz1 hb9
      have Y9 := Bx.far3 (i := 0) (j := 1) (k := 2) hx9 (Ne.symm hne) (.bool (neg (dm (lo)))) (.string (mag (dm (lo)))) (.int .i64 (de (lo)))
      have Z8 := Bx.far3 (i := 0) (j := 1) (k := 2) (hx8.set3 (.bool (neg (dm (lo)))) (.string (mag (dm (lo)))) (.int .i64 (de (lo)))) hne (.bool (neg (dm (hi)))) (.string (mag (dm (hi)))) (.int .i64 (de (hi)))
      have Z9 := Y9.set3 (.bool (neg (dm (hi)))) (.string (mag (dm (hi)))) (.int .i64 (de (hi)))
      replace Z3 := Bx.far3 (i := 0) (j := 1) (k := 2) (Bx.far3 (i := 0) (j := 1) (k := 2) (Z3.later hG) n8 (.bool (neg (dm (lo)))) (.string (mag (dm (lo)))) (.int .i64 (de (lo)))) n9 (.bool (neg (dm (hi)))) (.string (mag (dm (hi)))) (.int .i64 (de (hi)))
      replace hB := st3 (st3 (nxt hB hG) h8 (.bool (neg (dm (lo)))) (.string (mag (dm (lo)))) (.int .i64 (de (lo)))) h9 (.bool (neg (dm (hi)))) (.string (mag (dm (hi)))) (.int .i64 (de (hi)))
      obtain ⟨t1, t2, t3, t4, t5, t6⟩ := Y9.three
      obtain ⟨v1, v2, v3, v4, v5, v6⟩ := hx8.three
      have HK := Lib.hid (And.intro Z8 (And.intro Z9 (And.intro Z3 hB)))
      obtain ⟨p1, p2, p5, _, _, _⟩ := Z8.three
      obtain ⟨q1, q2, q5, _, _, _⟩ := Z9.three
      clear Z8 Z9 Z3 hB f21 f29 f8 f9 hP hD hG hb8 hb9 hx8 hx9 hne n8 n9 h8 h9 Y9 Z6 Z7 hz1 l3
      go_wp2_with fail
      obtain ⟨Z8, Z9, Z3, hB⟩ := HK.out
      clear HK t1 t2 t3 t4 t5 t6 v1 v2 v3 v4 v5 v6 p1 p2 p5 q1 q2 q5
      generalize (((((w3.setCell ⟨g8, 0, none⟩ (.bool (neg (dm (lo))))).setCell ⟨g8, 1, none⟩ (.string (mag (dm (lo))))).setCell ⟨g8, 2, none⟩ (.int .i64 (de (lo)))).setCell ⟨g9, 0, none⟩ (.bool (neg (dm (hi))))).setCell ⟨g9, 1, none⟩ (.string (mag (dm (hi))))).setCell ⟨g9, 2, none⟩ (.int .i64 (de (hi))) = w4 at *
      refine (c5.out _ (tab_keep HT.out hB)).mono ?_
      rintro e w5 ⟨rfl, hb⟩
      replace Z8 := Z8.later hb
      replace Z9 := Z9.later hb
      replace Z3 := Z3.later hb
      replace hB := nxt hB hb
      clear hb
      obtain ⟨p1, p2, p5, _, _, _⟩ := Z8.three
      obtain ⟨q1, q2, q5, _, _, _⟩ := Z9.three
      obtain ⟨r1, r2, r3, r4, r5, r6, r7, r8, r9, r10, r11, r12⟩ := Z3.six
      have HX := Lib.hid (And.intro Z3 hB)
      clear Z8 Z9 Z3 hB
      go_wp2_with fail
      exact bodyPost_ret (v := .tuple #[.agg #[.bool false, .string ⟨#[]⟩, .int .i64 0, .bool false, .string ⟨#[]⟩, .int .i64 0], .int .i64 4]) (by simp [results, Tryz.results30, go_sem, (HX.out.1.set6 _ _ _ _ _ _).cel]) rfl ⟨rfl, st6 HX.out.2 (Nat.le_add_right _ 2) _ _ _ _ _ _⟩

set_option maxRecDepth 100000 in
set_option maxHeartbeats 1000000 in
theorem sMeet_some (s t s' t' : ByteArray) (b c b' c' : Bool) (e f e' f' z : Int) (x y x' y' lo hi : Dyadic) (w : World) (hz : ¬ 0 < z) (hT : TabAt 0 Lib.deBruijn64tab w)
    (c1 : Hid (∀ W : World, TabAt 0 Lib.deBruijn64tab W → Calls Tryz.prog 72 #[.agg #[.bool b, .string s, .int .i64 e, .bool c, .string t, .int .i64 f]] W fun r w' => r = .returned (.agg #[.bool (neg (dm (x))), .string (mag (dm (x))), .int .i64 (de (x)), .bool (neg (dm (y))), .string (mag (dm (y))), .int .i64 (de (y))]) ∧ Below W.heap.size W w'))
    (c2 : Hid (∀ W : World, TabAt 0 Lib.deBruijn64tab W → Calls Tryz.prog 72 #[.agg #[.bool b', .string s', .int .i64 e', .bool c', .string t', .int .i64 f']] W fun r w' => r = .returned (.agg #[.bool (neg (dm (x'))), .string (mag (dm (x'))), .int .i64 (de (x')), .bool (neg (dm (y'))), .string (mag (dm (y'))), .int .i64 (de (y'))]) ∧ Below W.heap.size W w'))
    (c3 : Hid (∀ (g : Nat) (W : World), TabAt 0 Lib.deBruijn64tab W → Bx W g 25 #[.bool (neg (dm (x))), .string (mag (dm (x))), .int .i64 (de (x)), .bool (neg (dm (x'))), .string (mag (dm (x'))), .int .i64 (de (x'))] → Calls Tryz.prog 92 #[.slice (some ⟨g, 0, none⟩) 2 2] W fun r w' => r = .returned (.agg #[.bool (neg (dm (lo))), .string (mag (dm (lo))), .int .i64 (de (lo))]) ∧ Below W.heap.size W w'))
    (c4 : Hid (∀ (g : Nat) (W : World), TabAt 0 Lib.deBruijn64tab W → Bx W g 25 #[.bool (neg (dm (y))), .string (mag (dm (y))), .int .i64 (de (y)), .bool (neg (dm (y'))), .string (mag (dm (y'))), .int .i64 (de (y'))] → Calls Tryz.prog 91 #[.slice (some ⟨g, 0, none⟩) 2 2] W fun r w' => r = .returned (.agg #[.bool (neg (dm (hi))), .string (mag (dm (hi))), .int .i64 (de (hi))]) ∧ Below W.heap.size W w'))
    (c5 : Hid (∀ W : World, TabAt 0 Lib.deBruijn64tab W → Calls Tryz.prog 51 #[.agg #[.bool (neg (dm (lo))), .string (mag (dm (lo))), .int .i64 (de (lo))], .agg #[.bool (neg (dm (hi))), .string (mag (dm (hi))), .int .i64 (de (hi))]] W fun r w' => r = .returned (.int .i64 z) ∧ Below W.heap.size W w'))
    :
    Calls Tryz.prog 30 #[.agg #[.bool b, .string s, .int .i64 e, .bool c, .string t, .int .i64 f], .agg #[.bool b', .string s', .int .i64 e', .bool c', .string t', .int .i64 f']] w fun r w' => r = .returned (.tuple #[.agg #[.bool (neg (dm (lo))), .string (mag (dm (lo))), .int .i64 (de (lo)), .bool (neg (dm (hi))), .string (mag (dm (hi))), .int .i64 (de (hi))], .int .i64 0]) ∧ Below w.heap.size w w' := by
  have HT := Lib.hid hT
  clear hT
  go_enter Tryz.func30, Tryz.ntmps30
  go_upto_region 1 with (fail)
  have X1 := ((Bx.new w 27 #[.bool b, .string s, .int .i64 e, .bool c, .string t, .int .i64 f]).alloc (.cells #[.bool b', .string s', .int .i64 e', .bool c', .string t', .int .i64 f'] 27)).alloc (.cells #[.bool false, .string ⟨#[]⟩, .int .i64 0, .bool false, .string ⟨#[]⟩, .int .i64 0] 27)
  have X2 := (Bx.at1 w (.cells #[.bool b, .string s, .int .i64 e, .bool c, .string t, .int .i64 f] 27) 27 #[.bool b', .string s', .int .i64 e', .bool c', .string t', .int .i64 f']).alloc (.cells #[.bool false, .string ⟨#[]⟩, .int .i64 0, .bool false, .string ⟨#[]⟩, .int .i64 0] 27)
  have X3 := Bx.at2 w (.cells #[.bool b, .string s, .int .i64 e, .bool c, .string t, .int .i64 f] 27) (.cells #[.bool b', .string s', .int .i64 e', .bool c', .string t', .int .i64 f'] 27) 27 #[.bool false, .string ⟨#[]⟩, .int .i64 0, .bool false, .string ⟨#[]⟩, .int .i64 0]
  have hB := b3 w (.cells #[.bool b, .string s, .int .i64 e, .bool c, .string t, .int .i64 f] 27) (.cells #[.bool b', .string s', .int .i64 e', .bool c', .string t', .int .i64 f'] 27) (.cells #[.bool false, .string ⟨#[]⟩, .int .i64 0, .bool false, .string ⟨#[]⟩, .int .i64 0] 27)
  generalize ((w.alloc (.cells #[.bool b, .string s, .int .i64 e, .bool c, .string t, .int .i64 f] 27)).alloc (.cells #[.bool b', .string s', .int .i64 e', .bool c', .string t', .int .i64 f'] 27)).alloc (.cells #[.bool false, .string ⟨#[]⟩, .int .i64 0, .bool false, .string ⟨#[]⟩, .int .i64 0] 27) = w0 at *
  have hl0 := X1.lt
  have hl1 := X2.lt
  have hl2 := X3.lt
  refine wp_region_k [10, 11, 12, 13, 6, 7] [.eq (.agg #[.bool b, .string s, .int .i64 e, .bool c, .string t, .int .i64 f]), .eq (.agg #[.bool (neg (dm (x))), .string (mag (dm (x))), .int .i64 (de (x)), .bool (neg (dm (y))), .string (mag (dm (y))), .int .i64 (de (y))]), .eq (.agg #[.bool b', .string s', .int .i64 e', .bool c', .string t', .int .i64 f']), .eq (.agg #[.bool (neg (dm (x'))), .string (mag (dm (x'))), .int .i64 (de (x')), .bool (neg (dm (y'))), .string (mag (dm (y'))), .int .i64 (de (y'))]), .ptr w0.heap.size 88 #[.bool false, .string ⟨#[]⟩, .int .i64 0, .bool false, .string ⟨#[]⟩, .int .i64 0], .ptr w0.heap.size 88 #[.bool false, .string ⟨#[]⟩, .int .i64 0, .bool false, .string ⟨#[]⟩, .int .i64 0]] 38 (by kernel_rfl) (by exact fun _ _ _ _ _ h => h) (by kernel_rfl) (by rfl) ?hop ?htail
  case hop =>
    intro A hA
    have hN : A.tmps.size = 38 := by rw [hA]; rfl
    have q2 : A.tmps.getD 2 undef = .pointer (some ⟨w.heap.size, 0, none⟩) := by rw [hA]; rfl
    have q3 : A.tmps.getD 3 undef = .pointer (some ⟨w.heap.size + 1, 0, none⟩) := by rw [hA]; rfl
    clear hA
    refine ⟨?_, ?_, ?_, ?_, ?_, ?_, trivial⟩
    · refine kok hN fun u W ev ec ef E B hG hf => ?_
      exact k_val _ rfl rfl hG (by simp [go_sem, B 2 rfl rfl q2, (X1.later hG).cel]) rfl
    · refine kok hN fun u W ev ec ef E B hG hf => ?_
      exact k_cl rfl rfl (by simp [go_sem, ef, E 10 0 rfl rfl (hf 0 rfl)]) (c1.out W (tab_keep HT.out (nxt hB hG))) hG (fun _ _ => rfl)
    · refine kok hN fun u W ev ec ef E B hG hf => ?_
      exact k_val _ rfl rfl hG (by simp [go_sem, B 3 rfl rfl q3, (X2.later hG).cel]) rfl
    · refine kok hN fun u W ev ec ef E B hG hf => ?_
      exact k_cl rfl rfl (by simp [go_sem, ef, E 12 2 rfl rfl (hf 2 rfl)]) (c2.out W (tab_keep HT.out (nxt hB hG))) hG (fun _ _ => rfl)
    · refine kok hN fun u W ev ec ef E B hG hf => ?_
      exact k_new _ _ rfl (by simp [go_sem]) (nxtA hG _) ⟨_, rfl, below_le hG, Bx.new _ _ _⟩ rfl
    · refine kok hN fun u W ev ec ef E B hG hf => ?_
      exact k_new _ _ rfl (by simp [go_sem]) (nxtA hG _) ⟨_, rfl, below_le hG, Bx.new _ _ _⟩ rfl
  case htail =>
    intro u w' hG hP hD
    have f11 : u 1 = .agg #[.bool (neg (dm (x))), .string (mag (dm (x))), .int .i64 (de (x)), .bool (neg (dm (y))), .string (mag (dm (y))), .int .i64 (de (y))] := hP 1 (by decide)
    have f13 : u 3 = .agg #[.bool (neg (dm (x'))), .string (mag (dm (x'))), .int .i64 (de (x')), .bool (neg (dm (y'))), .string (mag (dm (y'))), .int .i64 (de (y'))] := hP 3 (by decide)
    obtain ⟨g6, f6, hb6, hx6⟩ : ptrK w0.heap.size 88 #[.bool false, .string ⟨#[]⟩, .int .i64 0, .bool false, .string ⟨#[]⟩, .int .i64 0] (u 4) w' := hP 4 (by decide)
    obtain ⟨g7, f7, hb7, hx7⟩ : ptrK w0.heap.size 88 #[.bool false, .string ⟨#[]⟩, .int .i64 0, .bool false, .string ⟨#[]⟩, .int .i64 0] (u 5) w' := hP 5 (by decide)
    have hne : g6 ≠ g7 := fun e => hD 4 5 (by decide) (by decide) rfl rfl (by decide) (by rw [f6, f7, e])
    simp only [putAll, Act.put, List.setIfInBounds_toArray, List.set_cons_zero, List.set_cons_succ, List.length_cons, List.length_nil, Nat.reduceAdd, List.drop_succ_cons, List.drop_zero, f11, f13, f6, f7]
    have hz1 := hB.size
    have l3 := X3.lt
    have n6 : w.heap.size + 2 ≠ g6 := by omega
    have n7 : w.heap.size + 2 ≠ g7 := by omega
    have h6 : w.heap.size ≤ g6 := Nat.le_trans hz1 hb6
    have h7 : w.heap.size ≤ g7 := Nat.le_trans hz1 hb7
    have Y7 := Bx.far6 hx7 (Ne.symm hne) (.bool (neg (dm (x)))) (.string (mag (dm (x)))) (.int .i64 (de (x))) (.bool (neg (dm (y)))) (.string (mag (dm (y)))) (.int .i64 (de (y)))
    have Z6 := Bx.far6 (hx6.set6 (.bool (neg (dm (x)))) (.string (mag (dm (x)))) (.int .i64 (de (x))) (.bool (neg (dm (y)))) (.string (mag (dm (y)))) (.int .i64 (de (y)))) hne (.bool (neg (dm (x')))) (.string (mag (dm (x')))) (.int .i64 (de (x'))) (.bool (neg (dm (y')))) (.string (mag (dm (y')))) (.int .i64 (de (y')))
    have Z7 := Y7.set6 (.bool (neg (dm (x')))) (.string (mag (dm (x')))) (.int .i64 (de (x'))) (.bool (neg (dm (y')))) (.string (mag (dm (y')))) (.int .i64 (de (y')))
    have Z3 := Bx.far6 (Bx.far6 (X3.later hG) n6 (.bool (neg (dm (x)))) (.string (mag (dm (x)))) (.int .i64 (de (x))) (.bool (neg (dm (y)))) (.string (mag (dm (y)))) (.int .i64 (de (y)))) n7 (.bool (neg (dm (x')))) (.string (mag (dm (x')))) (.int .i64 (de (x'))) (.bool (neg (dm (y')))) (.string (mag (dm (y')))) (.int .i64 (de (y')))
    replace hB := st6 (st6 (nxt hB hG) h6 (.bool (neg (dm (x)))) (.string (mag (dm (x)))) (.int .i64 (de (x))) (.bool (neg (dm (y)))) (.string (mag (dm (y)))) (.int .i64 (de (y)))) h7 (.bool (neg (dm (x')))) (.string (mag (dm (x')))) (.int .i64 (de (x'))) (.bool (neg (dm (y')))) (.string (mag (dm (y')))) (.int .i64 (de (y')))
    obtain ⟨t1, t2, t3, t4, t5, t6, t7, t8, t9, t10, t11, t12⟩ := Y7.six
    obtain ⟨v1, v2, v3, v4, v5, v6, v7, v8, v9, v10, v11, v12⟩ := hx6.six
    have HK := Lib.hid (And.intro Z6 (And.intro Z7 (And.intro Z3 hB)))
    clear Z6 Z7 Z3 hB f11 f13 f6 f7 hP hD hG hb6 hb7 hx6 hx7 hne n6 n7 h6 h7 Y7 X1 X2 X3 hz1 l3
    go_upto_region 2 with (fail)
    obtain ⟨Z6, Z7, Z3, hB⟩ := HK.out
    clear HK t1 t2 t3 t4 t5 t6 t7 t8 t9 t10 t11 t12 v1 v2 v3 v4 v5 v6 v7 v8 v9 v10 v11 v12
    generalize (((((((((((w'.setCell ⟨g6, 0, none⟩ (.bool (neg (dm (x))))).setCell ⟨g6, 1, none⟩ (.string (mag (dm (x))))).setCell ⟨g6, 2, none⟩ (.int .i64 (de (x)))).setCell ⟨g6, 3, none⟩ (.bool (neg (dm (y))))).setCell ⟨g6, 4, none⟩ (.string (mag (dm (y))))).setCell ⟨g6, 5, none⟩ (.int .i64 (de (y)))).setCell ⟨g7, 0, none⟩ (.bool (neg (dm (x'))))).setCell ⟨g7, 1, none⟩ (.string (mag (dm (x'))))).setCell ⟨g7, 2, none⟩ (.int .i64 (de (x')))).setCell ⟨g7, 3, none⟩ (.bool (neg (dm (y'))))).setCell ⟨g7, 4, none⟩ (.string (mag (dm (y'))))).setCell ⟨g7, 5, none⟩ (.int .i64 (de (y'))) = w2 at *
    refine wp_region_k [14, 15, 16, 17, 18, 19, 20, 21, 22, 23, 24, 25, 26, 27, 28, 29, 8, 9] [.eq (.pointer (some ⟨g6, 0, none⟩)), .eq (.pointer (some ⟨g6, 0, none⟩)), .eq (.agg #[.bool (neg (dm (x))), .string (mag (dm (x))), .int .i64 (de (x))]), .eq (.pointer (some ⟨g7, 0, none⟩)), .eq (.pointer (some ⟨g7, 0, none⟩)), .eq (.agg #[.bool (neg (dm (x'))), .string (mag (dm (x'))), .int .i64 (de (x'))]), .sli w2.heap.size 25 2 #[.bool (neg (dm (x))), .string (mag (dm (x))), .int .i64 (de (x)), .bool (neg (dm (x'))), .string (mag (dm (x'))), .int .i64 (de (x'))], .eq (.agg #[.bool (neg (dm (lo))), .string (mag (dm (lo))), .int .i64 (de (lo))]), .eq (.pointer (some ⟨g6, 0, none⟩)), .eq (.pointer (some ⟨g6, 3, none⟩)), .eq (.agg #[.bool (neg (dm (y))), .string (mag (dm (y))), .int .i64 (de (y))]), .eq (.pointer (some ⟨g7, 0, none⟩)), .eq (.pointer (some ⟨g7, 3, none⟩)), .eq (.agg #[.bool (neg (dm (y'))), .string (mag (dm (y'))), .int .i64 (de (y'))]), .sli w2.heap.size 25 2 #[.bool (neg (dm (y))), .string (mag (dm (y))), .int .i64 (de (y)), .bool (neg (dm (y'))), .string (mag (dm (y'))), .int .i64 (de (y'))], .eq (.agg #[.bool (neg (dm (hi))), .string (mag (dm (hi))), .int .i64 (de (hi))]), .ptr w2.heap.size 25 #[.bool false, .string ⟨#[]⟩, .int .i64 0], .ptr w2.heap.size 25 #[.bool false, .string ⟨#[]⟩, .int .i64 0]] 38 (by kernel_rfl) (by exact fun _ _ _ _ _ h => h) (by kernel_rfl) (by rfl) ?hop ?htail
    case hop =>
      intro A hA
      have hN : A.tmps.size = 38 := by rw [hA]; rfl
      have q6 : A.tmps.getD 6 undef = .pointer (some ⟨g6, 0, none⟩) := by rw [hA]; rfl
      have q7 : A.tmps.getD 7 undef = .pointer (some ⟨g7, 0, none⟩) := by rw [hA]; rfl
      clear hA
      refine ⟨?_, ?_, ?_, ?_, ?_, ?_, ?_, ?_, ?_, ?_, ?_, ?_, ?_, ?_, ?_, ?_, ?_, ?_, trivial⟩
      · refine kok hN fun u W ev ec ef E B hG hf => ?_
        exact k_val _ rfl rfl hG (by simp [go_sem, B 6 rfl rfl q6]) rfl
      · refine kok hN fun u W ev ec ef E B hG hf => ?_
        exact k_val _ rfl rfl hG (by simp [go_sem, E 14 0 rfl rfl (hf 0 rfl)]) rfl
      · refine kok hN fun u W ev ec ef E B hG hf => ?_
        exact k_val _ rfl rfl hG (by simp [go_sem, E 15 1 rfl rfl (hf 1 rfl), (Z6.later hG).cel]) rfl
      · refine kok hN fun u W ev ec ef E B hG hf => ?_
        exact k_val _ rfl rfl hG (by simp [go_sem, B 7 rfl rfl q7]) rfl
      · refine kok hN fun u W ev ec ef E B hG hf => ?_
        exact k_val _ rfl rfl hG (by simp [go_sem, E 17 3 rfl rfl (hf 3 rfl)]) rfl
      · refine kok hN fun u W ev ec ef E B hG hf => ?_
        exact k_val _ rfl rfl hG (by simp [go_sem, E 18 4 rfl rfl (hf 4 rfl), (Z7.later hG).cel]) rfl
      · refine kok hN fun u W ev ec ef E B hG hf => ?_
        exact k_new _ _ rfl (by simp [go_sem, E 16 2 rfl rfl (hf 2 rfl), E 19 5 rfl rfl (hf 5 rfl)]) (nxtA hG _) ⟨_, rfl, below_le hG, Bx.new _ _ _⟩ rfl
      · refine kok hN fun u W ev ec ef E B hG hf => ?_
        obtain ⟨g20, f20, hb20, hx20⟩ := hf 6 rfl
        exact k_cl rfl rfl (by simp [go_sem, ef, E 20 6 rfl rfl f20]) (c3.out _ W (tab_keep HT.out (nxt hB hG)) hx20) hG (fun _ _ => rfl)
      · refine kok hN fun u W ev ec ef E B hG hf => ?_
        exact k_val _ rfl rfl hG (by simp [go_sem, B 6 rfl rfl q6]) rfl
      · refine kok hN fun u W ev ec ef E B hG hf => ?_
        exact k_val _ rfl rfl hG (by simp [go_sem, E 22 8 rfl rfl (hf 8 rfl)]) rfl
      · refine kok hN fun u W ev ec ef E B hG hf => ?_
        exact k_val _ rfl rfl hG (by simp [go_sem, E 23 9 rfl rfl (hf 9 rfl), (Z6.later hG).cel]) rfl
      · refine kok hN fun u W ev ec ef E B hG hf => ?_
        exact k_val _ rfl rfl hG (by simp [go_sem, B 7 rfl rfl q7]) rfl
      · refine kok hN fun u W ev ec ef E B hG hf => ?_
        exact k_val _ rfl rfl hG (by simp [go_sem, E 25 11 rfl rfl (hf 11 rfl)]) rfl
      · refine kok hN fun u W ev ec ef E B hG hf => ?_
        exact k_val _ rfl rfl hG (by simp [go_sem, E 26 12 rfl rfl (hf 12 rfl), (Z7.later hG).cel]) rfl
      · refine kok hN fun u W ev ec ef E B hG hf => ?_
        exact k_new _ _ rfl (by simp [go_sem, E 24 10 rfl rfl (hf 10 rfl), E 27 13 rfl rfl (hf 13 rfl)]) (nxtA hG _) ⟨_, rfl, below_le hG, Bx.new _ _ _⟩ rfl
      · refine kok hN fun u W ev ec ef E B hG hf => ?_
        obtain ⟨g28, f28, hb28, hx28⟩ := hf 14 rfl
        exact k_cl rfl rfl (by simp [go_sem, ef, E 28 14 rfl rfl f28]) (c4.out _ W (tab_keep HT.out (nxt hB hG)) hx28) hG (fun _ _ => rfl)
      · refine kok hN fun u W ev ec ef E B hG hf => ?_
        exact k_new _ _ rfl (by simp [go_sem]) (nxtA hG _) ⟨_, rfl, below_le hG, Bx.new _ _ _⟩ rfl
      · refine kok hN fun u W ev ec ef E B hG hf => ?_
        exact k_new _ _ rfl (by simp [go_sem]) (nxtA hG _) ⟨_, rfl, below_le hG, Bx.new _ _ _⟩ rfl
    case htail =>
      intro u w3 hG hP hD
      have f21 : u 7 = .agg #[.bool (neg (dm (lo))), .string (mag (dm (lo))), .int .i64 (de (lo))] := hP 7 (by decide)
      have f29 : u 15 = .agg #[.bool (neg (dm (hi))), .string (mag (dm (hi))), .int .i64 (de (hi))] := hP 15 (by decide)
      obtain ⟨g8, f8, hb8, hx8⟩ : ptrK w2.heap.size 25 #[.bool false, .string ⟨#[]⟩, .int .i64 0] (u 16) w3 := hP 16 (by decide)
      obtain ⟨g9, f9, hb9, hx9⟩ : ptrK w2.heap.size 25 #[.bool false, .string ⟨#[]⟩, .int .i64 0] (u 17) w3 := hP 17 (by decide)
      have hne : g8 ≠ g9 := fun e => hD 16 17 (by decide) (by decide) rfl rfl (by decide) (by rw [f8, f9, e])
      simp only [putAll, Act.put, List.setIfInBounds_toArray, List.set_cons_zero, List.set_cons_succ, List.length_cons, List.length_nil, Nat.reduceAdd, List.drop_succ_cons, List.drop_zero, f21, f29, f8, f9]
      have hz1 := hB.size
      have l3 := Z3.lt
      have n8 : w.heap.size + 2 ≠ g8 := by omega
      have n9 : w.heap.size + 2 ≠ g9 := by omega
      have h8 : w.heap.size ≤ g8 := Nat.le_trans hz1 hb8
      have h9 : w.heap.size ≤ g9 := Nat.le_trans hz1 hb9
      have Y9 := Bx.far3 (i := 0) (j := 1) (k := 2) hx9 (Ne.symm hne) (.bool (neg (dm (lo)))) (.string (mag (dm (lo)))) (.int .i64 (de (lo)))
      have Z8 := Bx.far3 (i := 0) (j := 1) (k := 2) (hx8.set3 (.bool (neg (dm (lo)))) (.string (mag (dm (lo)))) (.int .i64 (de (lo)))) hne (.bool (neg (dm (hi)))) (.string (mag (dm (hi)))) (.int .i64 (de (hi)))
      have Z9 := Y9.set3 (.bool (neg (dm (hi)))) (.string (mag (dm (hi)))) (.int .i64 (de (hi)))
      replace Z3 := Bx.far3 (i := 0) (j := 1) (k := 2) (Bx.far3 (i := 0) (j := 1) (k := 2) (Z3.later hG) n8 (.bool (neg (dm (lo)))) (.string (mag (dm (lo)))) (.int .i64 (de (lo)))) n9 (.bool (neg (dm (hi)))) (.string (mag (dm (hi)))) (.int .i64 (de (hi)))
      replace hB := st3 (st3 (nxt hB hG) h8 (.bool (neg (dm (lo)))) (.string (mag (dm (lo)))) (.int .i64 (de (lo)))) h9 (.bool (neg (dm (hi)))) (.string (mag (dm (hi)))) (.int .i64 (de (hi)))
      obtain ⟨t1, t2, t3, t4, t5, t6⟩ := Y9.three
      obtain ⟨v1, v2, v3, v4, v5, v6⟩ := hx8.three
      have HK := Lib.hid (And.intro Z8 (And.intro Z9 (And.intro Z3 hB)))
      obtain ⟨p1, p2, p5, _, _, _⟩ := Z8.three
      obtain ⟨q1, q2, q5, _, _, _⟩ := Z9.three
      clear Z8 Z9 Z3 hB f21 f29 f8 f9 hP hD hG hb8 hb9 hx8 hx9 hne n8 n9 h8 h9 Y9 Z6 Z7 hz1 l3
      go_wp2_with fail
      obtain ⟨Z8, Z9, Z3, hB⟩ := HK.out
      clear HK t1 t2 t3 t4 t5 t6 v1 v2 v3 v4 v5 v6 p1 p2 p5 q1 q2 q5
      generalize (((((w3.setCell ⟨g8, 0, none⟩ (.bool (neg (dm (lo))))).setCell ⟨g8, 1, none⟩ (.string (mag (dm (lo))))).setCell ⟨g8, 2, none⟩ (.int .i64 (de (lo)))).setCell ⟨g9, 0, none⟩ (.bool (neg (dm (hi))))).setCell ⟨g9, 1, none⟩ (.string (mag (dm (hi))))).setCell ⟨g9, 2, none⟩ (.int .i64 (de (hi))) = w4 at *
      refine (c5.out _ (tab_keep HT.out hB)).mono ?_
      rintro e w5 ⟨rfl, hb⟩
      replace Z8 := Z8.later hb
      replace Z9 := Z9.later hb
      replace Z3 := Z3.later hb
      replace hB := nxt hB hb
      clear hb
      obtain ⟨p1, p2, p5, _, _, _⟩ := Z8.three
      obtain ⟨q1, q2, q5, _, _, _⟩ := Z9.three
      obtain ⟨r1, r2, r3, r4, r5, r6, r7, r8, r9, r10, r11, r12⟩ := Z3.six
      have HX := Lib.hid (And.intro Z3 hB)
      clear Z8 Z9 Z3 hB
      go_wp2_with fail
      exact bodyPost_ret (v := .tuple #[.agg #[.bool (neg (dm (lo))), .string (mag (dm (lo))), .int .i64 (de (lo)), .bool (neg (dm (hi))), .string (mag (dm (hi))), .int .i64 (de (hi))], .int .i64 0]) (by simp [results, Tryz.results30, go_sem, (HX.out.1.set6 _ _ _ _ _ _).cel]) rfl ⟨rfl, st6 HX.out.2 (Nat.le_add_right _ 2) _ _ _ _ _ _⟩

end Go.Proofs.YtchfglbkiebfpaaGreatDoor

namespace Go.Proofs.YtchfglbkiebfpaaGreatDoor
open Go.RowKit

set_option maxRecDepth 100000 in
set_option maxHeartbeats 1000000 in
theorem rsForm_le (aM bM xM yM : Bool) (aS bS xS yS : ByteArray) (aE bE xE yE : Int) (z : Int) (hz : ¬ 0 < z) (w : World)
    (c1 : Hid (∀ (W : World), Calls Tryz.prog 99 #[.agg #[.bool aM, .string aS, .int .i64 aE], .agg #[.bool bM, .string bS, .int .i64 bE]] W fun r w' => r = .returned (.int .i64 z) ∧ Below W.heap.size W w'))
    (c2 : Hid (∀ (W : World), Calls Tryz.prog 82 #[.agg #[.bool aM, .string aS, .int .i64 aE]] W fun r w' => r = .returned (.agg #[.bool xM, .string xS, .int .i64 xE]) ∧ Below W.heap.size W w'))
    (c3 : Hid (∀ (W : World), Calls Tryz.prog 82 #[.agg #[.bool bM, .string bS, .int .i64 bE]] W fun r w' => r = .returned (.agg #[.bool yM, .string yS, .int .i64 yE]) ∧ Below W.heap.size W w'))
    :
    Calls Tryz.prog 41 #[.agg #[.bool aM, .string aS, .int .i64 aE, .bool bM, .string bS, .int .i64 bE]] w fun r w' => r = .returned (.agg #[.bool xM, .string xS, .int .i64 xE, .bool yM, .string yS, .int .i64 yE]) ∧ Below w.heap.size w w' := by
  have hn0 : decide (0 < z) = false := by simpa using hz
  go_enter Tryz.func41, Tryz.ntmps41
  go_upto_region 1 with (fail)
  have X1 := (Bx.new w 27 #[.bool aM, .string aS, .int .i64 aE, .bool bM, .string bS, .int .i64 bE]).alloc (.cells #[.bool false, .string ⟨#[]⟩, .int .i64 0, .bool false, .string ⟨#[]⟩, .int .i64 0] 27)
  have X2 := Bx.at1 w (.cells #[.bool aM, .string aS, .int .i64 aE, .bool bM, .string bS, .int .i64 bE] 27) 27 #[.bool false, .string ⟨#[]⟩, .int .i64 0, .bool false, .string ⟨#[]⟩, .int .i64 0]
  have hB := b2 w (.cells #[.bool aM, .string aS, .int .i64 aE, .bool bM, .string bS, .int .i64 bE] 27) (.cells #[.bool false, .string ⟨#[]⟩, .int .i64 0, .bool false, .string ⟨#[]⟩, .int .i64 0] 27)
  generalize (w.alloc (.cells #[.bool aM, .string aS, .int .i64 aE, .bool bM, .string bS, .int .i64 bE] 27)).alloc (.cells #[.bool false, .string ⟨#[]⟩, .int .i64 0, .bool false, .string ⟨#[]⟩, .int .i64 0] 27) = w0 at *
  obtain ⟨c1_0, c1_1, c1_2, _, _, _, _, _, _, _, _, _⟩ := X1.k6
  obtain ⟨_, _, _, c2_3, c2_4, c2_5, _, _, _, _, _, _⟩ := X1.k6
  go_wp2_with fail
  clear c1_0 c1_1 c1_2 c2_3 c2_4 c2_5
  refine (c1.out _).mono ?_
  rintro e w1 ⟨rfl, hb⟩
  replace X1 := X1.later hb
  replace X2 := X2.later hb
  replace hB := nxt hB hb
  clear hb
  go_upto_region 3 with (fail)
  refine wp_region_k [15, 16, 17, 18, 19, 20, 21] [.eq (.pointer (some ⟨w.heap.size, 0, none⟩)), .eq (.agg #[.bool aM, .string aS, .int .i64 aE]), .eq (.agg #[.bool xM, .string xS, .int .i64 xE]), .eq (.pointer (some ⟨w.heap.size, 3, none⟩)), .eq (.agg #[.bool bM, .string bS, .int .i64 bE]), .eq (.agg #[.bool yM, .string yS, .int .i64 yE]), .eq (.agg #[.bool xM, .string xS, .int .i64 xE, .bool yM, .string yS, .int .i64 yE])] 22 (by kernel_rfl) (by exact fun _ _ _ _ _ h => h) (by kernel_rfl) (by rfl) ?hop ?htail
  case hop =>
    intro A hA
    have hN : A.tmps.size = 22 := by rw [hA]; rfl
    have q1 : A.tmps.getD 1 undef = .pointer (some ⟨w.heap.size, 0, none⟩) := by rw [hA]; rfl
    clear hA
    refine ⟨?_, ?_, ?_, ?_, ?_, ?_, ?_, trivial⟩
    · refine kok hN fun u W ev ec ef E B hG hf => ?_
      exact k_val _ rfl rfl hG (by simp [go_sem, B 1 rfl rfl q1]) rfl
    · refine kok hN fun u W ev ec ef E B hG hf => ?_
      exact k_val _ rfl rfl hG (by simp [go_sem, E 15 0 rfl rfl (hf 0 rfl), (X1.later hG).cel]) rfl
    · refine kok hN fun u W ev ec ef E B hG hf => ?_
      exact k_cl rfl rfl (by simp [go_sem, ef, E 16 1 rfl rfl (hf 1 rfl)]) (c2.out W) hG (fun _ _ => rfl)
    · refine kok hN fun u W ev ec ef E B hG hf => ?_
      exact k_val _ rfl rfl hG (by simp [go_sem, B 1 rfl rfl q1]) rfl
    · refine kok hN fun u W ev ec ef E B hG hf => ?_
      exact k_val _ rfl rfl hG (by simp [go_sem, E 18 3 rfl rfl (hf 3 rfl), (X1.later hG).cel]) rfl
    · refine kok hN fun u W ev ec ef E B hG hf => ?_
      exact k_cl rfl rfl (by simp [go_sem, ef, E 19 4 rfl rfl (hf 4 rfl)]) (c3.out W) hG (fun _ _ => rfl)
    · refine kok hN fun u W ev ec ef E B hG hf => ?_
      exact k_val _ rfl rfl hG (by simp [go_sem, E 17 2 rfl rfl (hf 2 rfl), E 20 5 rfl rfl (hf 5 rfl)]) rfl
  case htail =>
    intro u w2 hG hP hD
    have f21 : u 6 = .agg #[.bool xM, .string xS, .int .i64 xE, .bool yM, .string yS, .int .i64 yE] := hP 6 (by decide)
    simp only [putAll, Act.put, List.setIfInBounds_toArray, List.set_cons_zero, List.set_cons_succ, List.length_cons, List.length_nil, Nat.reduceAdd, List.drop_succ_cons, List.drop_zero, f21]
    replace X1 := X1.later hG
    replace X2 := X2.later hG
    replace hB := nxt hB hG
    clear hP hD hG f21
    obtain ⟨c3_0, c3_1, c3_2, c3_3, c3_4, c3_5, c3_6, c3_7, c3_8, c3_9, c3_10, c3_11⟩ := X2.k6
    replace X1 := Bx.farN (show w.heap.size ≠ w.heap.size + 1 by simp) [.bool xM, .string xS, .int .i64 xE, .bool yM, .string yS, .int .i64 yE] 0 X1
    replace X2 := Bx.stores [.bool xM, .string xS, .int .i64 xE, .bool yM, .string yS, .int .i64 yE] 0 X2
    replace hB := stN (Nat.le_add_right _ 1) [.bool xM, .string xS, .int .i64 xE, .bool yM, .string yS, .int .i64 yE] 0 hB
    simp only [setN, Nat.reduceAdd] at X1 hB
    simp only [setN, putN, Nat.reduceAdd, List.setIfInBounds_toArray, List.set_cons_zero, List.set_cons_succ] at X2
    obtain ⟨c4_0, c4_1, c4_2, c4_3, c4_4, c4_5, _, _, _, _, _, _⟩ := X2.k6
    clear X1
    go_wp2_with fail
    clear c3_0 c3_1 c3_2 c3_3 c3_4 c3_5 c3_6 c3_7 c3_8 c3_9 c3_10 c3_11 c4_0 c4_1 c4_2 c4_3 c4_4 c4_5
    exact bodyPost_ret (v := .agg #[.bool xM, .string xS, .int .i64 xE, .bool yM, .string yS, .int .i64 yE]) (by simp [results, Tryz.results41, go_sem, X2.cel]) rfl ⟨rfl, hB⟩

set_option maxRecDepth 100000 in
set_option maxHeartbeats 1000000 in
theorem rsForm_gt (aM bM xM yM : Bool) (aS bS xS yS : ByteArray) (aE bE xE yE : Int) (z : Int) (hz : 0 < z) (w : World)
    (c1 : Hid (∀ (W : World), Calls Tryz.prog 99 #[.agg #[.bool aM, .string aS, .int .i64 aE], .agg #[.bool bM, .string bS, .int .i64 bE]] W fun r w' => r = .returned (.int .i64 z) ∧ Below W.heap.size W w'))
    (c2 : Hid (∀ (W : World), Calls Tryz.prog 82 #[.agg #[.bool aM, .string aS, .int .i64 aE]] W fun r w' => r = .returned (.agg #[.bool xM, .string xS, .int .i64 xE]) ∧ Below W.heap.size W w'))
    (c3 : Hid (∀ (W : World), Calls Tryz.prog 82 #[.agg #[.bool bM, .string bS, .int .i64 bE]] W fun r w' => r = .returned (.agg #[.bool yM, .string yS, .int .i64 yE]) ∧ Below W.heap.size W w'))
    :
    Calls Tryz.prog 41 #[.agg #[.bool aM, .string aS, .int .i64 aE, .bool bM, .string bS, .int .i64 bE]] w fun r w' => r = .returned (.agg #[.bool yM, .string yS, .int .i64 yE, .bool xM, .string xS, .int .i64 xE]) ∧ Below w.heap.size w w' := by
  go_enter Tryz.func41, Tryz.ntmps41
  go_upto_region 1 with (fail)
  have X1 := (Bx.new w 27 #[.bool aM, .string aS, .int .i64 aE, .bool bM, .string bS, .int .i64 bE]).alloc (.cells #[.bool false, .string ⟨#[]⟩, .int .i64 0, .bool false, .string ⟨#[]⟩, .int .i64 0] 27)
  have X2 := Bx.at1 w (.cells #[.bool aM, .string aS, .int .i64 aE, .bool bM, .string bS, .int .i64 bE] 27) 27 #[.bool false, .string ⟨#[]⟩, .int .i64 0, .bool false, .string ⟨#[]⟩, .int .i64 0]
  have hB := b2 w (.cells #[.bool aM, .string aS, .int .i64 aE, .bool bM, .string bS, .int .i64 bE] 27) (.cells #[.bool false, .string ⟨#[]⟩, .int .i64 0, .bool false, .string ⟨#[]⟩, .int .i64 0] 27)
  generalize (w.alloc (.cells #[.bool aM, .string aS, .int .i64 aE, .bool bM, .string bS, .int .i64 bE] 27)).alloc (.cells #[.bool false, .string ⟨#[]⟩, .int .i64 0, .bool false, .string ⟨#[]⟩, .int .i64 0] 27) = w0 at *
  obtain ⟨c1_0, c1_1, c1_2, _, _, _, _, _, _, _, _, _⟩ := X1.k6
  obtain ⟨_, _, _, c2_3, c2_4, c2_5, _, _, _, _, _, _⟩ := X1.k6
  go_wp2_with fail
  clear c1_0 c1_1 c1_2 c2_3 c2_4 c2_5
  refine (c1.out _).mono ?_
  rintro e w1 ⟨rfl, hb⟩
  replace X1 := X1.later hb
  replace X2 := X2.later hb
  replace hB := nxt hB hb
  clear hb
  obtain ⟨_, _, _, c3_3, c3_4, c3_5, _, _, _, _, _, _⟩ := X1.k6
  obtain ⟨c4_0, c4_1, c4_2, _, _, _, _, _, _, _, _, _⟩ := X1.k6
  obtain ⟨c5_0, c5_1, c5_2, _, _, _, c5_6, c5_7, c5_8, _, _, _⟩ := X1.k6
  replace X2 := Bx.farN (show w.heap.size + 1 ≠ w.heap.size by simp) [.bool bM, .string bS, .int .i64 bE] 0 X2
  replace X1 := Bx.stores [.bool bM, .string bS, .int .i64 bE] 0 X1
  replace hB := stN (Nat.le_refl _) [.bool bM, .string bS, .int .i64 bE] 0 hB
  simp only [setN, Nat.reduceAdd] at X2 hB
  simp only [setN, putN, Nat.reduceAdd, List.setIfInBounds_toArray, List.set_cons_zero, List.set_cons_succ] at X1
  obtain ⟨_, _, _, c6_3, c6_4, c6_5, _, _, _, c6_9, c6_10, c6_11⟩ := X1.k6
  replace X2 := Bx.farN (show w.heap.size + 1 ≠ w.heap.size by simp) [.bool aM, .string aS, .int .i64 aE] 3 X2
  replace X1 := Bx.stores [.bool aM, .string aS, .int .i64 aE] 3 X1
  replace hB := stN (Nat.le_refl _) [.bool aM, .string aS, .int .i64 aE] 3 hB
  simp only [setN, Nat.reduceAdd] at X2 hB
  simp only [setN, putN, Nat.reduceAdd, List.setIfInBounds_toArray, List.set_cons_zero, List.set_cons_succ] at X1
  go_upto_region 3 with (fail)
  clear c3_3 c3_4 c3_5 c4_0 c4_1 c4_2 c5_0 c5_1 c5_2 c5_6 c5_7 c5_8 c6_3 c6_4 c6_5 c6_9 c6_10 c6_11
  generalize (((((w1.setCell ⟨w.heap.size, 0, none⟩ (.bool bM)).setCell ⟨w.heap.size, 1, none⟩ (.string bS)).setCell ⟨w.heap.size, 2, none⟩ (.int .i64 bE)).setCell ⟨w.heap.size, 3, none⟩ (.bool aM)).setCell ⟨w.heap.size, 4, none⟩ (.string aS)).setCell ⟨w.heap.size, 5, none⟩ (.int .i64 aE) = w2 at *
  refine wp_region_k [15, 16, 17, 18, 19, 20, 21] [.eq (.pointer (some ⟨w.heap.size, 0, none⟩)), .eq (.agg #[.bool bM, .string bS, .int .i64 bE]), .eq (.agg #[.bool yM, .string yS, .int .i64 yE]), .eq (.pointer (some ⟨w.heap.size, 3, none⟩)), .eq (.agg #[.bool aM, .string aS, .int .i64 aE]), .eq (.agg #[.bool xM, .string xS, .int .i64 xE]), .eq (.agg #[.bool yM, .string yS, .int .i64 yE, .bool xM, .string xS, .int .i64 xE])] 22 (by kernel_rfl) (by exact fun _ _ _ _ _ h => h) (by kernel_rfl) (by rfl) ?hop ?htail
  case hop =>
    intro A hA
    have hN : A.tmps.size = 22 := by rw [hA]; rfl
    have q1 : A.tmps.getD 1 undef = .pointer (some ⟨w.heap.size, 0, none⟩) := by rw [hA]; rfl
    clear hA
    refine ⟨?_, ?_, ?_, ?_, ?_, ?_, ?_, trivial⟩
    · refine kok hN fun u W ev ec ef E B hG hf => ?_
      exact k_val _ rfl rfl hG (by simp [go_sem, B 1 rfl rfl q1]) rfl
    · refine kok hN fun u W ev ec ef E B hG hf => ?_
      exact k_val _ rfl rfl hG (by simp [go_sem, E 15 0 rfl rfl (hf 0 rfl), (X1.later hG).cel]) rfl
    · refine kok hN fun u W ev ec ef E B hG hf => ?_
      exact k_cl rfl rfl (by simp [go_sem, ef, E 16 1 rfl rfl (hf 1 rfl)]) (c3.out W) hG (fun _ _ => rfl)
    · refine kok hN fun u W ev ec ef E B hG hf => ?_
      exact k_val _ rfl rfl hG (by simp [go_sem, B 1 rfl rfl q1]) rfl
    · refine kok hN fun u W ev ec ef E B hG hf => ?_
      exact k_val _ rfl rfl hG (by simp [go_sem, E 18 3 rfl rfl (hf 3 rfl), (X1.later hG).cel]) rfl
    · refine kok hN fun u W ev ec ef E B hG hf => ?_
      exact k_cl rfl rfl (by simp [go_sem, ef, E 19 4 rfl rfl (hf 4 rfl)]) (c2.out W) hG (fun _ _ => rfl)
    · refine kok hN fun u W ev ec ef E B hG hf => ?_
      exact k_val _ rfl rfl hG (by simp [go_sem, E 17 2 rfl rfl (hf 2 rfl), E 20 5 rfl rfl (hf 5 rfl)]) rfl
  case htail =>
    intro u w3 hG hP hD
    have f21 : u 6 = .agg #[.bool yM, .string yS, .int .i64 yE, .bool xM, .string xS, .int .i64 xE] := hP 6 (by decide)
    simp only [putAll, Act.put, List.setIfInBounds_toArray, List.set_cons_zero, List.set_cons_succ, List.length_cons, List.length_nil, Nat.reduceAdd, List.drop_succ_cons, List.drop_zero, f21]
    replace X1 := X1.later hG
    replace X2 := X2.later hG
    replace hB := nxt hB hG
    clear hP hD hG f21
    obtain ⟨c7_0, c7_1, c7_2, c7_3, c7_4, c7_5, c7_6, c7_7, c7_8, c7_9, c7_10, c7_11⟩ := X2.k6
    replace X1 := Bx.farN (show w.heap.size ≠ w.heap.size + 1 by simp) [.bool yM, .string yS, .int .i64 yE, .bool xM, .string xS, .int .i64 xE] 0 X1
    replace X2 := Bx.stores [.bool yM, .string yS, .int .i64 yE, .bool xM, .string xS, .int .i64 xE] 0 X2
    replace hB := stN (Nat.le_add_right _ 1) [.bool yM, .string yS, .int .i64 yE, .bool xM, .string xS, .int .i64 xE] 0 hB
    simp only [setN, Nat.reduceAdd] at X1 hB
    simp only [setN, putN, Nat.reduceAdd, List.setIfInBounds_toArray, List.set_cons_zero, List.set_cons_succ] at X2
    obtain ⟨c8_0, c8_1, c8_2, c8_3, c8_4, c8_5, _, _, _, _, _, _⟩ := X2.k6
    clear X1
    go_wp2_with fail
    clear c7_0 c7_1 c7_2 c7_3 c7_4 c7_5 c7_6 c7_7 c7_8 c7_9 c7_10 c7_11 c8_0 c8_1 c8_2 c8_3 c8_4 c8_5
    exact bodyPost_ret (v := .agg #[.bool yM, .string yS, .int .i64 yE, .bool xM, .string xS, .int .i64 xE]) (by simp [results, Tryz.results41, go_sem, X2.cel]) rfl ⟨rfl, hB⟩

set_option maxRecDepth 100000 in
set_option maxHeartbeats 1000000 in
theorem rsPlus_x (aM bM dM fM xM yM x'M y'M uM vM : Bool) (aS bS dS fS xS yS x'S y'S uS vS : ByteArray) (aE bE dE fE xE yE x'E y'E uE vE : Int) (w : World)
    (c1 : Hid (∀ (W : World), Calls Tryz.prog 41 #[.agg #[.bool aM, .string aS, .int .i64 aE, .bool bM, .string bS, .int .i64 bE]] W fun r w' => r = .returned (.agg #[.bool xM, .string xS, .int .i64 xE, .bool yM, .string yS, .int .i64 yE]) ∧ Below W.heap.size W w'))
    (c2 : Hid (∀ (W : World), Calls Tryz.prog 41 #[.agg #[.bool dM, .string dS, .int .i64 dE, .bool fM, .string fS, .int .i64 fE]] W fun r w' => r = .returned (.agg #[.bool x'M, .string x'S, .int .i64 x'E, .bool y'M, .string y'S, .int .i64 y'E]) ∧ Below W.heap.size W w'))
    (c3 : Hid (∀ (W : World), Calls Tryz.prog 105 #[.agg #[.bool xM, .string xS, .int .i64 xE], .agg #[.bool x'M, .string x'S, .int .i64 x'E]] W fun r w' => r = .returned (.agg #[.bool uM, .string uS, .int .i64 uE]) ∧ Below W.heap.size W w'))
    (c4 : Hid (∀ (W : World), Calls Tryz.prog 105 #[.agg #[.bool yM, .string yS, .int .i64 yE], .agg #[.bool y'M, .string y'S, .int .i64 y'E]] W fun r w' => r = .returned (.agg #[.bool vM, .string vS, .int .i64 vE]) ∧ Below W.heap.size W w'))
    :
    Calls Tryz.prog 73 #[.agg #[.bool aM, .string aS, .int .i64 aE, .bool bM, .string bS, .int .i64 bE], .agg #[.bool dM, .string dS, .int .i64 dE, .bool fM, .string fS, .int .i64 fE]] w fun r w' => r = .returned (.agg #[.bool uM, .string uS, .int .i64 uE, .bool vM, .string vS, .int .i64 vE]) ∧ Below w.heap.size w w' := by
  go_enter Tryz.func73, Tryz.ntmps73
  go_upto_region 1 with (fail)
  have X1 := ((Bx.new w 27 #[.bool aM, .string aS, .int .i64 aE, .bool bM, .string bS, .int .i64 bE]).alloc (.cells #[.bool dM, .string dS, .int .i64 dE, .bool fM, .string fS, .int .i64 fE] 27)).alloc (.cells #[.bool false, .string ⟨#[]⟩, .int .i64 0, .bool false, .string ⟨#[]⟩, .int .i64 0] 27)
  have X2 := (Bx.at1 w (.cells #[.bool aM, .string aS, .int .i64 aE, .bool bM, .string bS, .int .i64 bE] 27) 27 #[.bool dM, .string dS, .int .i64 dE, .bool fM, .string fS, .int .i64 fE]).alloc (.cells #[.bool false, .string ⟨#[]⟩, .int .i64 0, .bool false, .string ⟨#[]⟩, .int .i64 0] 27)
  have X3 := Bx.at2 w (.cells #[.bool aM, .string aS, .int .i64 aE, .bool bM, .string bS, .int .i64 bE] 27) (.cells #[.bool dM, .string dS, .int .i64 dE, .bool fM, .string fS, .int .i64 fE] 27) 27 #[.bool false, .string ⟨#[]⟩, .int .i64 0, .bool false, .string ⟨#[]⟩, .int .i64 0]
  have hB := b3 w (.cells #[.bool aM, .string aS, .int .i64 aE, .bool bM, .string bS, .int .i64 bE] 27) (.cells #[.bool dM, .string dS, .int .i64 dE, .bool fM, .string fS, .int .i64 fE] 27) (.cells #[.bool false, .string ⟨#[]⟩, .int .i64 0, .bool false, .string ⟨#[]⟩, .int .i64 0] 27)
  generalize ((w.alloc (.cells #[.bool aM, .string aS, .int .i64 aE, .bool bM, .string bS, .int .i64 bE] 27)).alloc (.cells #[.bool dM, .string dS, .int .i64 dE, .bool fM, .string fS, .int .i64 fE] 27)).alloc (.cells #[.bool false, .string ⟨#[]⟩, .int .i64 0, .bool false, .string ⟨#[]⟩, .int .i64 0] 27) = w0 at *
  go_upto_region 1 with (fail)
  refine wp_region_k [5, 6, 7, 8] [.eq (.agg #[.bool aM, .string aS, .int .i64 aE, .bool bM, .string bS, .int .i64 bE]), .eq (.agg #[.bool xM, .string xS, .int .i64 xE, .bool yM, .string yS, .int .i64 yE]), .eq (.agg #[.bool dM, .string dS, .int .i64 dE, .bool fM, .string fS, .int .i64 fE]), .eq (.agg #[.bool x'M, .string x'S, .int .i64 x'E, .bool y'M, .string y'S, .int .i64 y'E])] 20 (by kernel_rfl) (by exact fun _ _ _ _ _ h => h) (by kernel_rfl) (by rfl) ?hop ?htail
  case hop =>
    intro A hA
    have hN : A.tmps.size = 20 := by rw [hA]; rfl
    have q2 : A.tmps.getD 2 undef = .pointer (some ⟨w.heap.size, 0, none⟩) := by rw [hA]; rfl
    have q3 : A.tmps.getD 3 undef = .pointer (some ⟨w.heap.size + 1, 0, none⟩) := by rw [hA]; rfl
    clear hA
    refine ⟨?_, ?_, ?_, ?_, trivial⟩
    · refine kok hN fun u W ev ec ef E B hG hf => ?_
      exact k_val _ rfl rfl hG (by simp [go_sem, B 2 rfl rfl q2, (X1.later hG).cel]) rfl
    · refine kok hN fun u W ev ec ef E B hG hf => ?_
      exact k_cl rfl rfl (by simp [go_sem, ef, E 5 0 rfl rfl (hf 0 rfl)]) (c1.out W) hG (fun _ _ => rfl)
    · refine kok hN fun u W ev ec ef E B hG hf => ?_
      exact k_val _ rfl rfl hG (by simp [go_sem, B 3 rfl rfl q3, (X2.later hG).cel]) rfl
    · refine kok hN fun u W ev ec ef E B hG hf => ?_
      exact k_cl rfl rfl (by simp [go_sem, ef, E 7 2 rfl rfl (hf 2 rfl)]) (c2.out W) hG (fun _ _ => rfl)
  case htail =>
    intro u w1 hG hP hD
    have f6 : u 1 = .agg #[.bool xM, .string xS, .int .i64 xE, .bool yM, .string yS, .int .i64 yE] := hP 1 (by decide)
    have f8 : u 3 = .agg #[.bool x'M, .string x'S, .int .i64 x'E, .bool y'M, .string y'S, .int .i64 y'E] := hP 3 (by decide)
    simp only [putAll, Act.put, List.setIfInBounds_toArray, List.set_cons_zero, List.set_cons_succ, List.length_cons, List.length_nil, Nat.reduceAdd, List.drop_succ_cons, List.drop_zero, f6, f8]
    replace X1 := X1.later hG
    replace X2 := X2.later hG
    replace X3 := X3.later hG
    replace hB := nxt hB hG
    clear hP hD hG f6 f8
    obtain ⟨c1_0, c1_1, c1_2, c1_3, c1_4, c1_5, c1_6, c1_7, c1_8, c1_9, c1_10, c1_11⟩ := X1.k6
    replace X2 := Bx.farN (show w.heap.size + 1 ≠ w.heap.size by simp) [.bool xM, .string xS, .int .i64 xE, .bool yM, .string yS, .int .i64 yE] 0 X2
    replace X3 := Bx.farN (show w.heap.size + 2 ≠ w.heap.size by simp) [.bool xM, .string xS, .int .i64 xE, .bool yM, .string yS, .int .i64 yE] 0 X3
    replace X1 := Bx.stores [.bool xM, .string xS, .int .i64 xE, .bool yM, .string yS, .int .i64 yE] 0 X1
    replace hB := stN (Nat.le_refl _) [.bool xM, .string xS, .int .i64 xE, .bool yM, .string yS, .int .i64 yE] 0 hB
    simp only [setN, Nat.reduceAdd] at X2 X3 hB
    simp only [setN, putN, Nat.reduceAdd, List.setIfInBounds_toArray, List.set_cons_zero, List.set_cons_succ] at X1
    obtain ⟨c2_0, c2_1, c2_2, c2_3, c2_4, c2_5, c2_6, c2_7, c2_8, c2_9, c2_10, c2_11⟩ := X2.k6
    replace X1 := Bx.farN (show w.heap.size ≠ w.heap.size + 1 by simp) [.bool x'M, .string x'S, .int .i64 x'E, .bool y'M, .string y'S, .int .i64 y'E] 0 X1
    replace X3 := Bx.farN (show w.heap.size + 2 ≠ w.heap.size + 1 by simp) [.bool x'M, .string x'S, .int .i64 x'E, .bool y'M, .string y'S, .int .i64 y'E] 0 X3
    replace X2 := Bx.stores [.bool x'M, .string x'S, .int .i64 x'E, .bool y'M, .string y'S, .int .i64 y'E] 0 X2
    replace hB := stN (Nat.le_add_right _ 1) [.bool x'M, .string x'S, .int .i64 x'E, .bool y'M, .string y'S, .int .i64 y'E] 0 hB
    simp only [setN, Nat.reduceAdd] at X1 X3 hB
    simp only [setN, putN, Nat.reduceAdd, List.setIfInBounds_toArray, List.set_cons_zero, List.set_cons_succ] at X2
    go_upto_region 2 with (fail)
    clear c1_0 c1_1 c1_2 c1_3 c1_4 c1_5 c1_6 c1_7 c1_8 c1_9 c1_10 c1_11 c2_0 c2_1 c2_2 c2_3 c2_4 c2_5 c2_6 c2_7 c2_8 c2_9 c2_10 c2_11
    generalize (((((((((((w1.setCell ⟨w.heap.size, 0, none⟩ (.bool xM)).setCell ⟨w.heap.size, 1, none⟩ (.string xS)).setCell ⟨w.heap.size, 2, none⟩ (.int .i64 xE)).setCell ⟨w.heap.size, 3, none⟩ (.bool yM)).setCell ⟨w.heap.size, 4, none⟩ (.string yS)).setCell ⟨w.heap.size, 5, none⟩ (.int .i64 yE)).setCell ⟨w.heap.size + 1, 0, none⟩ (.bool x'M)).setCell ⟨w.heap.size + 1, 1, none⟩ (.string x'S)).setCell ⟨w.heap.size + 1, 2, none⟩ (.int .i64 x'E)).setCell ⟨w.heap.size + 1, 3, none⟩ (.bool y'M)).setCell ⟨w.heap.size + 1, 4, none⟩ (.string y'S)).setCell ⟨w.heap.size + 1, 5, none⟩ (.int .i64 y'E) = w2 at *
    refine wp_region_k [9, 10, 11, 12, 13, 14, 15, 16, 17, 18, 19] [.eq (.pointer (some ⟨w.heap.size, 0, none⟩)), .eq (.agg #[.bool xM, .string xS, .int .i64 xE]), .eq (.pointer (some ⟨w.heap.size + 1, 0, none⟩)), .eq (.agg #[.bool x'M, .string x'S, .int .i64 x'E]), .eq (.agg #[.bool uM, .string uS, .int .i64 uE]), .eq (.pointer (some ⟨w.heap.size, 3, none⟩)), .eq (.agg #[.bool yM, .string yS, .int .i64 yE]), .eq (.pointer (some ⟨w.heap.size + 1, 3, none⟩)), .eq (.agg #[.bool y'M, .string y'S, .int .i64 y'E]), .eq (.agg #[.bool vM, .string vS, .int .i64 vE]), .eq (.agg #[.bool uM, .string uS, .int .i64 uE, .bool vM, .string vS, .int .i64 vE])] 20 (by kernel_rfl) (by exact fun _ _ _ _ _ h => h) (by kernel_rfl) (by rfl) ?hop ?htail
    case hop =>
      intro A hA
      have hN : A.tmps.size = 20 := by rw [hA]; rfl
      have q2 : A.tmps.getD 2 undef = .pointer (some ⟨w.heap.size, 0, none⟩) := by rw [hA]; rfl
      have q3 : A.tmps.getD 3 undef = .pointer (some ⟨w.heap.size + 1, 0, none⟩) := by rw [hA]; rfl
      clear hA
      refine ⟨?_, ?_, ?_, ?_, ?_, ?_, ?_, ?_, ?_, ?_, ?_, trivial⟩
      · refine kok hN fun u W ev ec ef E B hG hf => ?_
        exact k_val _ rfl rfl hG (by simp [go_sem, B 2 rfl rfl q2]) rfl
      · refine kok hN fun u W ev ec ef E B hG hf => ?_
        exact k_val _ rfl rfl hG (by simp [go_sem, E 9 0 rfl rfl (hf 0 rfl), (X1.later hG).cel]) rfl
      · refine kok hN fun u W ev ec ef E B hG hf => ?_
        exact k_val _ rfl rfl hG (by simp [go_sem, B 3 rfl rfl q3]) rfl
      · refine kok hN fun u W ev ec ef E B hG hf => ?_
        exact k_val _ rfl rfl hG (by simp [go_sem, E 11 2 rfl rfl (hf 2 rfl), (X2.later hG).cel]) rfl
      · refine kok hN fun u W ev ec ef E B hG hf => ?_
        exact k_cl rfl rfl (by simp [go_sem, ef, E 10 1 rfl rfl (hf 1 rfl), E 12 3 rfl rfl (hf 3 rfl)]) (c3.out W) hG (fun _ _ => rfl)
      · refine kok hN fun u W ev ec ef E B hG hf => ?_
        exact k_val _ rfl rfl hG (by simp [go_sem, B 2 rfl rfl q2]) rfl
      · refine kok hN fun u W ev ec ef E B hG hf => ?_
        exact k_val _ rfl rfl hG (by simp [go_sem, E 14 5 rfl rfl (hf 5 rfl), (X1.later hG).cel]) rfl
      · refine kok hN fun u W ev ec ef E B hG hf => ?_
        exact k_val _ rfl rfl hG (by simp [go_sem, B 3 rfl rfl q3]) rfl
      · refine kok hN fun u W ev ec ef E B hG hf => ?_
        exact k_val _ rfl rfl hG (by simp [go_sem, E 16 7 rfl rfl (hf 7 rfl), (X2.later hG).cel]) rfl
      · refine kok hN fun u W ev ec ef E B hG hf => ?_
        exact k_cl rfl rfl (by simp [go_sem, ef, E 15 6 rfl rfl (hf 6 rfl), E 17 8 rfl rfl (hf 8 rfl)]) (c4.out W) hG (fun _ _ => rfl)
      · refine kok hN fun u W ev ec ef E B hG hf => ?_
        exact k_val _ rfl rfl hG (by simp [go_sem, E 13 4 rfl rfl (hf 4 rfl), E 18 9 rfl rfl (hf 9 rfl)]) rfl
    case htail =>
      intro u w3 hG hP hD
      have f19 : u 10 = .agg #[.bool uM, .string uS, .int .i64 uE, .bool vM, .string vS, .int .i64 vE] := hP 10 (by decide)
      simp only [putAll, Act.put, List.setIfInBounds_toArray, List.set_cons_zero, List.set_cons_succ, List.length_cons, List.length_nil, Nat.reduceAdd, List.drop_succ_cons, List.drop_zero, f19]
      replace X1 := X1.later hG
      replace X2 := X2.later hG
      replace X3 := X3.later hG
      replace hB := nxt hB hG
      clear hP hD hG f19
      obtain ⟨c3_0, c3_1, c3_2, c3_3, c3_4, c3_5, c3_6, c3_7, c3_8, c3_9, c3_10, c3_11⟩ := X3.k6
      replace X1 := Bx.farN (show w.heap.size ≠ w.heap.size + 2 by simp) [.bool uM, .string uS, .int .i64 uE, .bool vM, .string vS, .int .i64 vE] 0 X1
      replace X2 := Bx.farN (show w.heap.size + 1 ≠ w.heap.size + 2 by simp) [.bool uM, .string uS, .int .i64 uE, .bool vM, .string vS, .int .i64 vE] 0 X2
      replace X3 := Bx.stores [.bool uM, .string uS, .int .i64 uE, .bool vM, .string vS, .int .i64 vE] 0 X3
      replace hB := stN (Nat.le_add_right _ 2) [.bool uM, .string uS, .int .i64 uE, .bool vM, .string vS, .int .i64 vE] 0 hB
      simp only [setN, Nat.reduceAdd] at X1 X2 hB
      simp only [setN, putN, Nat.reduceAdd, List.setIfInBounds_toArray, List.set_cons_zero, List.set_cons_succ] at X3
      obtain ⟨c4_0, c4_1, c4_2, c4_3, c4_4, c4_5, _, _, _, _, _, _⟩ := X3.k6
      clear X1 X2
      go_wp2_with fail
      clear c3_0 c3_1 c3_2 c3_3 c3_4 c3_5 c3_6 c3_7 c3_8 c3_9 c3_10 c3_11 c4_0 c4_1 c4_2 c4_3 c4_4 c4_5
      exact bodyPost_ret (v := .agg #[.bool uM, .string uS, .int .i64 uE, .bool vM, .string vS, .int .i64 vE]) (by simp [results, Tryz.results73, go_sem, X3.cel]) rfl ⟨rfl, hB⟩

set_option maxRecDepth 100000 in
set_option maxHeartbeats 1000000 in
theorem rsNeg_x (aM bM xM yM uM vM : Bool) (aS bS xS yS uS vS : ByteArray) (aE bE xE yE uE vE : Int) (w : World)
    (c1 : Hid (∀ (W : World), Calls Tryz.prog 41 #[.agg #[.bool aM, .string aS, .int .i64 aE, .bool bM, .string bS, .int .i64 bE]] W fun r w' => r = .returned (.agg #[.bool xM, .string xS, .int .i64 xE, .bool yM, .string yS, .int .i64 yE]) ∧ Below W.heap.size W w'))
    (c2 : Hid (∀ (W : World), Calls Tryz.prog 75 #[.agg #[.bool yM, .string yS, .int .i64 yE]] W fun r w' => r = .returned (.agg #[.bool vM, .string vS, .int .i64 vE]) ∧ Below W.heap.size W w'))
    (c3 : Hid (∀ (W : World), Calls Tryz.prog 75 #[.agg #[.bool xM, .string xS, .int .i64 xE]] W fun r w' => r = .returned (.agg #[.bool uM, .string uS, .int .i64 uE]) ∧ Below W.heap.size W w'))
    :
    Calls Tryz.prog 19 #[.agg #[.bool aM, .string aS, .int .i64 aE, .bool bM, .string bS, .int .i64 bE]] w fun r w' => r = .returned (.agg #[.bool vM, .string vS, .int .i64 vE, .bool uM, .string uS, .int .i64 uE]) ∧ Below w.heap.size w w' := by
  go_enter Tryz.func19, Tryz.ntmps19
  go_upto_region 1 with (fail)
  have X1 := (Bx.new w 27 #[.bool aM, .string aS, .int .i64 aE, .bool bM, .string bS, .int .i64 bE]).alloc (.cells #[.bool false, .string ⟨#[]⟩, .int .i64 0, .bool false, .string ⟨#[]⟩, .int .i64 0] 27)
  have X2 := Bx.at1 w (.cells #[.bool aM, .string aS, .int .i64 aE, .bool bM, .string bS, .int .i64 bE] 27) 27 #[.bool false, .string ⟨#[]⟩, .int .i64 0, .bool false, .string ⟨#[]⟩, .int .i64 0]
  have hB := b2 w (.cells #[.bool aM, .string aS, .int .i64 aE, .bool bM, .string bS, .int .i64 bE] 27) (.cells #[.bool false, .string ⟨#[]⟩, .int .i64 0, .bool false, .string ⟨#[]⟩, .int .i64 0] 27)
  generalize (w.alloc (.cells #[.bool aM, .string aS, .int .i64 aE, .bool bM, .string bS, .int .i64 bE] 27)).alloc (.cells #[.bool false, .string ⟨#[]⟩, .int .i64 0, .bool false, .string ⟨#[]⟩, .int .i64 0] 27) = w0 at *
  obtain ⟨c1_0, c1_1, c1_2, c1_3, c1_4, c1_5, _, _, _, _, _, _⟩ := X1.k6
  go_wp2_with fail
  clear c1_0 c1_1 c1_2 c1_3 c1_4 c1_5
  refine (c1.out _).mono ?_
  rintro e w1 ⟨rfl, hb⟩
  replace X1 := X1.later hb
  replace X2 := X2.later hb
  replace hB := nxt hB hb
  clear hb
  obtain ⟨c2_0, c2_1, c2_2, c2_3, c2_4, c2_5, c2_6, c2_7, c2_8, c2_9, c2_10, c2_11⟩ := X1.k6
  replace X2 := Bx.farN (show w.heap.size + 1 ≠ w.heap.size by simp) [.bool xM, .string xS, .int .i64 xE, .bool yM, .string yS, .int .i64 yE] 0 X2
  replace X1 := Bx.stores [.bool xM, .string xS, .int .i64 xE, .bool yM, .string yS, .int .i64 yE] 0 X1
  replace hB := stN (Nat.le_refl _) [.bool xM, .string xS, .int .i64 xE, .bool yM, .string yS, .int .i64 yE] 0 hB
  simp only [setN, Nat.reduceAdd] at X2 hB
  simp only [setN, putN, Nat.reduceAdd, List.setIfInBounds_toArray, List.set_cons_zero, List.set_cons_succ] at X1
  go_upto_region 2 with (fail)
  clear c2_0 c2_1 c2_2 c2_3 c2_4 c2_5 c2_6 c2_7 c2_8 c2_9 c2_10 c2_11
  generalize (((((w1.setCell ⟨w.heap.size, 0, none⟩ (.bool xM)).setCell ⟨w.heap.size, 1, none⟩ (.string xS)).setCell ⟨w.heap.size, 2, none⟩ (.int .i64 xE)).setCell ⟨w.heap.size, 3, none⟩ (.bool yM)).setCell ⟨w.heap.size, 4, none⟩ (.string yS)).setCell ⟨w.heap.size, 5, none⟩ (.int .i64 yE) = w2 at *
  refine wp_region_k [5, 6, 7, 8, 9, 10, 11] [.eq (.pointer (some ⟨w.heap.size, 3, none⟩)), .eq (.agg #[.bool yM, .string yS, .int .i64 yE]), .eq (.agg #[.bool vM, .string vS, .int .i64 vE]), .eq (.pointer (some ⟨w.heap.size, 0, none⟩)), .eq (.agg #[.bool xM, .string xS, .int .i64 xE]), .eq (.agg #[.bool uM, .string uS, .int .i64 uE]), .eq (.agg #[.bool vM, .string vS, .int .i64 vE, .bool uM, .string uS, .int .i64 uE])] 12 (by kernel_rfl) (by exact fun _ _ _ _ _ h => h) (by kernel_rfl) (by rfl) ?hop ?htail
  case hop =>
    intro A hA
    have hN : A.tmps.size = 12 := by rw [hA]; rfl
    have q1 : A.tmps.getD 1 undef = .pointer (some ⟨w.heap.size, 0, none⟩) := by rw [hA]; rfl
    clear hA
    refine ⟨?_, ?_, ?_, ?_, ?_, ?_, ?_, trivial⟩
    · refine kok hN fun u W ev ec ef E B hG hf => ?_
      exact k_val _ rfl rfl hG (by simp [go_sem, B 1 rfl rfl q1]) rfl
    · refine kok hN fun u W ev ec ef E B hG hf => ?_
      exact k_val _ rfl rfl hG (by simp [go_sem, E 5 0 rfl rfl (hf 0 rfl), (X1.later hG).cel]) rfl
    · refine kok hN fun u W ev ec ef E B hG hf => ?_
      exact k_cl rfl rfl (by simp [go_sem, ef, E 6 1 rfl rfl (hf 1 rfl)]) (c2.out W) hG (fun _ _ => rfl)
    · refine kok hN fun u W ev ec ef E B hG hf => ?_
      exact k_val _ rfl rfl hG (by simp [go_sem, B 1 rfl rfl q1]) rfl
    · refine kok hN fun u W ev ec ef E B hG hf => ?_
      exact k_val _ rfl rfl hG (by simp [go_sem, E 8 3 rfl rfl (hf 3 rfl), (X1.later hG).cel]) rfl
    · refine kok hN fun u W ev ec ef E B hG hf => ?_
      exact k_cl rfl rfl (by simp [go_sem, ef, E 9 4 rfl rfl (hf 4 rfl)]) (c3.out W) hG (fun _ _ => rfl)
    · refine kok hN fun u W ev ec ef E B hG hf => ?_
      exact k_val _ rfl rfl hG (by simp [go_sem, E 7 2 rfl rfl (hf 2 rfl), E 10 5 rfl rfl (hf 5 rfl)]) rfl
  case htail =>
    intro u w3 hG hP hD
    have f11 : u 6 = .agg #[.bool vM, .string vS, .int .i64 vE, .bool uM, .string uS, .int .i64 uE] := hP 6 (by decide)
    simp only [putAll, Act.put, List.setIfInBounds_toArray, List.set_cons_zero, List.set_cons_succ, List.length_cons, List.length_nil, Nat.reduceAdd, List.drop_succ_cons, List.drop_zero, f11]
    replace X1 := X1.later hG
    replace X2 := X2.later hG
    replace hB := nxt hB hG
    clear hP hD hG f11
    obtain ⟨c3_0, c3_1, c3_2, c3_3, c3_4, c3_5, c3_6, c3_7, c3_8, c3_9, c3_10, c3_11⟩ := X2.k6
    replace X1 := Bx.farN (show w.heap.size ≠ w.heap.size + 1 by simp) [.bool vM, .string vS, .int .i64 vE, .bool uM, .string uS, .int .i64 uE] 0 X1
    replace X2 := Bx.stores [.bool vM, .string vS, .int .i64 vE, .bool uM, .string uS, .int .i64 uE] 0 X2
    replace hB := stN (Nat.le_add_right _ 1) [.bool vM, .string vS, .int .i64 vE, .bool uM, .string uS, .int .i64 uE] 0 hB
    simp only [setN, Nat.reduceAdd] at X1 hB
    simp only [setN, putN, Nat.reduceAdd, List.setIfInBounds_toArray, List.set_cons_zero, List.set_cons_succ] at X2
    obtain ⟨c4_0, c4_1, c4_2, c4_3, c4_4, c4_5, _, _, _, _, _, _⟩ := X2.k6
    clear X1
    go_wp2_with fail
    clear c3_0 c3_1 c3_2 c3_3 c3_4 c3_5 c3_6 c3_7 c3_8 c3_9 c3_10 c3_11 c4_0 c4_1 c4_2 c4_3 c4_4 c4_5
    exact bodyPost_ret (v := .agg #[.bool vM, .string vS, .int .i64 vE, .bool uM, .string uS, .int .i64 uE]) (by simp [results, Tryz.results19, go_sem, X2.cel]) rfl ⟨rfl, hB⟩

set_option maxRecDepth 100000 in
set_option maxHeartbeats 1000000 in
theorem rsMul_x (aM bM dM fM kM lM mM nM xM yM : Bool) (aS bS dS fS kS lS mS nS xS yS : ByteArray) (aE bE dE fE kE lE mE nE xE yE : Int) (w : World)
    (c1 : Hid (∀ (W : World), Calls Tryz.prog 78 #[.agg #[.bool aM, .string aS, .int .i64 aE], .agg #[.bool dM, .string dS, .int .i64 dE]] W fun r w' => r = .returned (.agg #[.bool kM, .string kS, .int .i64 kE]) ∧ Below W.heap.size W w'))
    (c2 : Hid (∀ (W : World), Calls Tryz.prog 78 #[.agg #[.bool aM, .string aS, .int .i64 aE], .agg #[.bool fM, .string fS, .int .i64 fE]] W fun r w' => r = .returned (.agg #[.bool lM, .string lS, .int .i64 lE]) ∧ Below W.heap.size W w'))
    (c3 : Hid (∀ (W : World), Calls Tryz.prog 78 #[.agg #[.bool bM, .string bS, .int .i64 bE], .agg #[.bool dM, .string dS, .int .i64 dE]] W fun r w' => r = .returned (.agg #[.bool mM, .string mS, .int .i64 mE]) ∧ Below W.heap.size W w'))
    (c4 : Hid (∀ (W : World), Calls Tryz.prog 78 #[.agg #[.bool bM, .string bS, .int .i64 bE], .agg #[.bool fM, .string fS, .int .i64 fE]] W fun r w' => r = .returned (.agg #[.bool nM, .string nS, .int .i64 nE]) ∧ Below W.heap.size W w'))
    (cO : Hid (∀ (g : Nat) (W : World), Bx W g 25 #[.bool kM, .string kS, .int .i64 kE, .bool lM, .string lS, .int .i64 lE, .bool mM, .string mS, .int .i64 mE, .bool nM, .string nS, .int .i64 nE] → Calls Tryz.prog 47 #[.slice (some ⟨g, 0, none⟩) 4 4] W fun r w' => r = .returned (.agg #[.bool xM, .string xS, .int .i64 xE, .bool yM, .string yS, .int .i64 yE]) ∧ Below W.heap.size W w'))
    :
    Calls Tryz.prog 21 #[.agg #[.bool aM, .string aS, .int .i64 aE, .bool bM, .string bS, .int .i64 bE], .agg #[.bool dM, .string dS, .int .i64 dE, .bool fM, .string fS, .int .i64 fE]] w fun r w' => r = .returned (.agg #[.bool xM, .string xS, .int .i64 xE, .bool yM, .string yS, .int .i64 yE]) ∧ Below w.heap.size w w' := by
  go_enter Tryz.func21, Tryz.ntmps21
  go_upto_region 1 with (fail)
  have X1 := ((Bx.new w 27 #[.bool aM, .string aS, .int .i64 aE, .bool bM, .string bS, .int .i64 bE]).alloc (.cells #[.bool dM, .string dS, .int .i64 dE, .bool fM, .string fS, .int .i64 fE] 27)).alloc (.cells #[.bool false, .string ⟨#[]⟩, .int .i64 0, .bool false, .string ⟨#[]⟩, .int .i64 0] 27)
  have X2 := (Bx.at1 w (.cells #[.bool aM, .string aS, .int .i64 aE, .bool bM, .string bS, .int .i64 bE] 27) 27 #[.bool dM, .string dS, .int .i64 dE, .bool fM, .string fS, .int .i64 fE]).alloc (.cells #[.bool false, .string ⟨#[]⟩, .int .i64 0, .bool false, .string ⟨#[]⟩, .int .i64 0] 27)
  have X3 := Bx.at2 w (.cells #[.bool aM, .string aS, .int .i64 aE, .bool bM, .string bS, .int .i64 bE] 27) (.cells #[.bool dM, .string dS, .int .i64 dE, .bool fM, .string fS, .int .i64 fE] 27) 27 #[.bool false, .string ⟨#[]⟩, .int .i64 0, .bool false, .string ⟨#[]⟩, .int .i64 0]
  have hB := b3 w (.cells #[.bool aM, .string aS, .int .i64 aE, .bool bM, .string bS, .int .i64 bE] 27) (.cells #[.bool dM, .string dS, .int .i64 dE, .bool fM, .string fS, .int .i64 fE] 27) (.cells #[.bool false, .string ⟨#[]⟩, .int .i64 0, .bool false, .string ⟨#[]⟩, .int .i64 0] 27)
  generalize ((w.alloc (.cells #[.bool aM, .string aS, .int .i64 aE, .bool bM, .string bS, .int .i64 bE] 27)).alloc (.cells #[.bool dM, .string dS, .int .i64 dE, .bool fM, .string fS, .int .i64 fE] 27)).alloc (.cells #[.bool false, .string ⟨#[]⟩, .int .i64 0, .bool false, .string ⟨#[]⟩, .int .i64 0] 27) = w0 at *
  go_upto_region 1 with (fail)
  refine wp_region_k [5, 6, 7, 8, 9, 10, 11, 12, 13, 14, 15, 16, 17, 18, 19, 20, 21, 22, 23, 24, 25, 26] [.eq (.pointer (some ⟨w.heap.size, 0, none⟩)), .eq (.agg #[.bool aM, .string aS, .int .i64 aE]), .eq (.pointer (some ⟨w.heap.size + 1, 0, none⟩)), .eq (.agg #[.bool dM, .string dS, .int .i64 dE]), .eq (.agg #[.bool kM, .string kS, .int .i64 kE]), .eq (.pointer (some ⟨w.heap.size, 0, none⟩)), .eq (.agg #[.bool aM, .string aS, .int .i64 aE]), .eq (.pointer (some ⟨w.heap.size + 1, 3, none⟩)), .eq (.agg #[.bool fM, .string fS, .int .i64 fE]), .eq (.agg #[.bool lM, .string lS, .int .i64 lE]), .eq (.pointer (some ⟨w.heap.size, 3, none⟩)), .eq (.agg #[.bool bM, .string bS, .int .i64 bE]), .eq (.pointer (some ⟨w.heap.size + 1, 0, none⟩)), .eq (.agg #[.bool dM, .string dS, .int .i64 dE]), .eq (.agg #[.bool mM, .string mS, .int .i64 mE]), .eq (.pointer (some ⟨w.heap.size, 3, none⟩)), .eq (.agg #[.bool bM, .string bS, .int .i64 bE]), .eq (.pointer (some ⟨w.heap.size + 1, 3, none⟩)), .eq (.agg #[.bool fM, .string fS, .int .i64 fE]), .eq (.agg #[.bool nM, .string nS, .int .i64 nE]), .sli w0.heap.size 25 4 #[.bool kM, .string kS, .int .i64 kE, .bool lM, .string lS, .int .i64 lE, .bool mM, .string mS, .int .i64 mE, .bool nM, .string nS, .int .i64 nE], .eq (.agg #[.bool xM, .string xS, .int .i64 xE, .bool yM, .string yS, .int .i64 yE])] 27 (by kernel_rfl) (by exact fun _ _ _ _ _ h => h) (by kernel_rfl) (by rfl) ?hop ?htail
  case hop =>
    intro A hA
    have hN : A.tmps.size = 27 := by rw [hA]; rfl
    have q2 : A.tmps.getD 2 undef = .pointer (some ⟨w.heap.size, 0, none⟩) := by rw [hA]; rfl
    have q3 : A.tmps.getD 3 undef = .pointer (some ⟨w.heap.size + 1, 0, none⟩) := by rw [hA]; rfl
    clear hA
    refine ⟨?_, ?_, ?_, ?_, ?_, ?_, ?_, ?_, ?_, ?_, ?_, ?_, ?_, ?_, ?_, ?_, ?_, ?_, ?_, ?_, ?_, ?_, trivial⟩
    · refine kok hN fun u W ev ec ef E B hG hf => ?_
      exact k_val _ rfl rfl hG (by simp [go_sem, B 2 rfl rfl q2]) rfl
    · refine kok hN fun u W ev ec ef E B hG hf => ?_
      exact k_val _ rfl rfl hG (by simp [go_sem, E 5 0 rfl rfl (hf 0 rfl), (X1.later hG).cel]) rfl
    · refine kok hN fun u W ev ec ef E B hG hf => ?_
      exact k_val _ rfl rfl hG (by simp [go_sem, B 3 rfl rfl q3]) rfl
    · refine kok hN fun u W ev ec ef E B hG hf => ?_
      exact k_val _ rfl rfl hG (by simp [go_sem, E 7 2 rfl rfl (hf 2 rfl), (X2.later hG).cel]) rfl
    · refine kok hN fun u W ev ec ef E B hG hf => ?_
      exact k_cl rfl rfl (by simp [go_sem, ef, E 6 1 rfl rfl (hf 1 rfl), E 8 3 rfl rfl (hf 3 rfl)]) (c1.out W) hG (fun _ _ => rfl)
    · refine kok hN fun u W ev ec ef E B hG hf => ?_
      exact k_val _ rfl rfl hG (by simp [go_sem, B 2 rfl rfl q2]) rfl
    · refine kok hN fun u W ev ec ef E B hG hf => ?_
      exact k_val _ rfl rfl hG (by simp [go_sem, E 10 5 rfl rfl (hf 5 rfl), (X1.later hG).cel]) rfl
    · refine kok hN fun u W ev ec ef E B hG hf => ?_
      exact k_val _ rfl rfl hG (by simp [go_sem, B 3 rfl rfl q3]) rfl
    · refine kok hN fun u W ev ec ef E B hG hf => ?_
      exact k_val _ rfl rfl hG (by simp [go_sem, E 12 7 rfl rfl (hf 7 rfl), (X2.later hG).cel]) rfl
    · refine kok hN fun u W ev ec ef E B hG hf => ?_
      exact k_cl rfl rfl (by simp [go_sem, ef, E 11 6 rfl rfl (hf 6 rfl), E 13 8 rfl rfl (hf 8 rfl)]) (c2.out W) hG (fun _ _ => rfl)
    · refine kok hN fun u W ev ec ef E B hG hf => ?_
      exact k_val _ rfl rfl hG (by simp [go_sem, B 2 rfl rfl q2]) rfl
    · refine kok hN fun u W ev ec ef E B hG hf => ?_
      exact k_val _ rfl rfl hG (by simp [go_sem, E 15 10 rfl rfl (hf 10 rfl), (X1.later hG).cel]) rfl
    · refine kok hN fun u W ev ec ef E B hG hf => ?_
      exact k_val _ rfl rfl hG (by simp [go_sem, B 3 rfl rfl q3]) rfl
    · refine kok hN fun u W ev ec ef E B hG hf => ?_
      exact k_val _ rfl rfl hG (by simp [go_sem, E 17 12 rfl rfl (hf 12 rfl), (X2.later hG).cel]) rfl
    · refine kok hN fun u W ev ec ef E B hG hf => ?_
      exact k_cl rfl rfl (by simp [go_sem, ef, E 16 11 rfl rfl (hf 11 rfl), E 18 13 rfl rfl (hf 13 rfl)]) (c3.out W) hG (fun _ _ => rfl)
    · refine kok hN fun u W ev ec ef E B hG hf => ?_
      exact k_val _ rfl rfl hG (by simp [go_sem, B 2 rfl rfl q2]) rfl
    · refine kok hN fun u W ev ec ef E B hG hf => ?_
      exact k_val _ rfl rfl hG (by simp [go_sem, E 20 15 rfl rfl (hf 15 rfl), (X1.later hG).cel]) rfl
    · refine kok hN fun u W ev ec ef E B hG hf => ?_
      exact k_val _ rfl rfl hG (by simp [go_sem, B 3 rfl rfl q3]) rfl
    · refine kok hN fun u W ev ec ef E B hG hf => ?_
      exact k_val _ rfl rfl hG (by simp [go_sem, E 22 17 rfl rfl (hf 17 rfl), (X2.later hG).cel]) rfl
    · refine kok hN fun u W ev ec ef E B hG hf => ?_
      exact k_cl rfl rfl (by simp [go_sem, ef, E 21 16 rfl rfl (hf 16 rfl), E 23 18 rfl rfl (hf 18 rfl)]) (c4.out W) hG (fun _ _ => rfl)
    · refine kok hN fun u W ev ec ef E B hG hf => ?_
      exact k_new _ _ rfl (by simp [go_sem, E 9 4 rfl rfl (hf 4 rfl), E 14 9 rfl rfl (hf 9 rfl), E 19 14 rfl rfl (hf 14 rfl), E 24 19 rfl rfl (hf 19 rfl)]) (nxtA hG _) ⟨_, rfl, below_le hG, Bx.new _ _ _⟩ rfl
    · refine kok hN fun u W ev ec ef E B hG hf => ?_
      obtain ⟨g25, f25, hb25, hx25⟩ := hf 20 rfl
      exact k_cl rfl rfl (by simp [go_sem, ef, E 25 20 rfl rfl f25]) (cO.out _ W hx25) hG (fun _ _ => rfl)
  case htail =>
    intro u w1 hG hP hD
    have f26 : u 21 = .agg #[.bool xM, .string xS, .int .i64 xE, .bool yM, .string yS, .int .i64 yE] := hP 21 (by decide)
    simp only [putAll, Act.put, List.setIfInBounds_toArray, List.set_cons_zero, List.set_cons_succ, List.length_cons, List.length_nil, Nat.reduceAdd, List.drop_succ_cons, List.drop_zero, f26]
    replace X1 := X1.later hG
    replace X2 := X2.later hG
    replace X3 := X3.later hG
    replace hB := nxt hB hG
    clear hP hD hG f26
    obtain ⟨c1_0, c1_1, c1_2, c1_3, c1_4, c1_5, c1_6, c1_7, c1_8, c1_9, c1_10, c1_11⟩ := X3.k6
    replace X1 := Bx.farN (show w.heap.size ≠ w.heap.size + 2 by simp) [.bool xM, .string xS, .int .i64 xE, .bool yM, .string yS, .int .i64 yE] 0 X1
    replace X2 := Bx.farN (show w.heap.size + 1 ≠ w.heap.size + 2 by simp) [.bool xM, .string xS, .int .i64 xE, .bool yM, .string yS, .int .i64 yE] 0 X2
    replace X3 := Bx.stores [.bool xM, .string xS, .int .i64 xE, .bool yM, .string yS, .int .i64 yE] 0 X3
    replace hB := stN (Nat.le_add_right _ 2) [.bool xM, .string xS, .int .i64 xE, .bool yM, .string yS, .int .i64 yE] 0 hB
    simp only [setN, Nat.reduceAdd] at X1 X2 hB
    simp only [setN, putN, Nat.reduceAdd, List.setIfInBounds_toArray, List.set_cons_zero, List.set_cons_succ] at X3
    obtain ⟨c2_0, c2_1, c2_2, c2_3, c2_4, c2_5, _, _, _, _, _, _⟩ := X3.k6
    clear X1 X2
    go_wp2_with fail
    clear c1_0 c1_1 c1_2 c1_3 c1_4 c1_5 c1_6 c1_7 c1_8 c1_9 c1_10 c1_11 c2_0 c2_1 c2_2 c2_3 c2_4 c2_5
    exact bodyPost_ret (v := .agg #[.bool xM, .string xS, .int .i64 xE, .bool yM, .string yS, .int .i64 yE]) (by simp [results, Tryz.results21, go_sem, X3.cel]) rfl ⟨rfl, hB⟩

set_option maxRecDepth 100000 in
set_option maxHeartbeats 1000000 in
theorem rsOf_x (A : Option Addr) (n c : Nat) (xM yM : Bool) (xS yS : ByteArray) (xE yE : Int) (w : World)
    (c1 : Hid (∀ W : World, Below w.heap.size w W → Calls Tryz.prog 98 #[.slice A n c] W fun r w' => r = .returned (.agg #[.bool xM, .string xS, .int .i64 xE]) ∧ Below W.heap.size W w'))
    (c2 : Hid (∀ W : World, Below w.heap.size w W → Calls Tryz.prog 97 #[.slice A n c] W fun r w' => r = .returned (.agg #[.bool yM, .string yS, .int .i64 yE]) ∧ Below W.heap.size W w'))
    :
    Calls Tryz.prog 47 #[.slice A n c] w fun r w' => r = .returned (.agg #[.bool xM, .string xS, .int .i64 xE, .bool yM, .string yS, .int .i64 yE]) ∧ Below w.heap.size w w' := by
  go_enter Tryz.func47, Tryz.ntmps47
  go_upto_region 1 with (fail)
  have X1 := Bx.new w 27 #[.bool false, .string ⟨#[]⟩, .int .i64 0, .bool false, .string ⟨#[]⟩, .int .i64 0]
  have hB := b1 w (.cells #[.bool false, .string ⟨#[]⟩, .int .i64 0, .bool false, .string ⟨#[]⟩, .int .i64 0] 27)
  generalize w.alloc (.cells #[.bool false, .string ⟨#[]⟩, .int .i64 0, .bool false, .string ⟨#[]⟩, .int .i64 0] 27) = w0 at *
  go_wp2_with fail
  refine (c1.out _ hB).mono ?_
  rintro e w1 ⟨rfl, hb⟩
  replace X1 := X1.later hb
  replace hB := nxt hB hb
  clear hb
  go_wp2_with fail
  refine (c2.out _ hB).mono ?_
  rintro e w2 ⟨rfl, hb⟩
  replace X1 := X1.later hb
  replace hB := nxt hB hb
  clear hb
  obtain ⟨c1_0, c1_1, c1_2, c1_3, c1_4, c1_5, c1_6, c1_7, c1_8, c1_9, c1_10, c1_11⟩ := X1.k6
  replace X1 := Bx.stores [.bool xM, .string xS, .int .i64 xE, .bool yM, .string yS, .int .i64 yE] 0 X1
  replace hB := stN (Nat.le_refl _) [.bool xM, .string xS, .int .i64 xE, .bool yM, .string yS, .int .i64 yE] 0 hB
  simp only [setN, Nat.reduceAdd] at  hB
  simp only [setN, putN, Nat.reduceAdd, List.setIfInBounds_toArray, List.set_cons_zero, List.set_cons_succ] at X1
  obtain ⟨c2_0, c2_1, c2_2, c2_3, c2_4, c2_5, _, _, _, _, _, _⟩ := X1.k6
  go_wp2_with fail
  clear c1_0 c1_1 c1_2 c1_3 c1_4 c1_5 c1_6 c1_7 c1_8 c1_9 c1_10 c1_11 c2_0 c2_1 c2_2 c2_3 c2_4 c2_5
  exact bodyPost_ret (v := .agg #[.bool xM, .string xS, .int .i64 xE, .bool yM, .string yS, .int .i64 yE]) (by simp [results, Tryz.results47, go_sem, X1.cel]) rfl ⟨rfl, hB⟩

end Go.Proofs.YtchfglbkiebfpaaGreatDoor

