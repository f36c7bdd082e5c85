/- The walks and plain laws beneath the statements. -/
import Derived.Test.YtchfglbkiebfpaaGreatDoorPX7
import Derived.Test.YtchfglbkiebfpaaGreatDoorPX19
import Derived.Test.YtchfglbkiebfpaaGreatDoorPX20
import Derived.BigQuiet
import Derived.Deep.QuietTactic
import Derived.Deep.RegionHeld3
namespace Go.Proofs.YtchfglbkiebfpaaGreatDoor
open Go.RowKit

theorem rdSign_vn {L T0 : Nat} {x : Dyadic} (d1 : DB L T0 x) (hLT : L + T0 ≤ 4000000) :
    Hid (∀ W : World, Calls Tryz.prog 24 #[.agg #[.bool (neg (dm (x))), .string (mag (dm (x))), .int .i64 (de (x))]] W fun r w' => r = .returned (.int .i64 (dsgn x)) ∧ Below W.heap.size W w') := by
  have h1 := db_size d1
  have h := Lib.hid (fun W => rdSign_any (mag (dm x)) (neg (dm x)) (de x) W (by omega))
  rw [ival_mk, dy_dm] at h
  exact h
theorem rdForm_nd {b : Bool} {s : ByteArray} {e : Int} {x : Dyadic} (n1 : ND b s e x) :
    Hid (∀ W : World, Calls Tryz.prog 82 #[.agg #[.bool b, .string s, .int .i64 e]] W fun r w' => r = .returned (.agg #[.bool (neg (dm (x))), .string (mag (dm (x))), .int .i64 (de (x))]) ∧ Below W.heap.size W w') := by
  have h := Lib.hid (fun W => rdForm_any s b e W (Nat.le_trans n1.size (by decide)) n1.lo (by have := n1.hi; omega))
  rw [n1.val] at h
  exact h
theorem plus_parts {L T0 : Nat} {x y : Dyadic} (d1 : DB L T0 x) (d2 : DB L T0 y) (hLT : L + T0 ≤ 4000000) (hge : de y ≤ de x) :
    ∃ d m q : Int, IntKind.i64.wrap (de x - de y) = d ∧ Hid (∀ W : World, Calls Tryz.prog 85 #[.agg #[.bool (neg (dm (x))), .string (mag (dm (x)))], .int .i64 d] W fun r w' => r = .returned (.agg #[.bool (neg m), .string (mag m)]) ∧ Below W.heap.size W w') ∧
      Hid (∀ W : World, Calls Tryz.prog 87 #[.agg #[.bool (neg m), .string (mag m)], .agg #[.bool (neg (dm (y))), .string (mag (dm (y)))]] W fun r w' => r = .returned (.agg #[.bool (neg q), .string (mag q)]) ∧ Below W.heap.size W w') ∧
      Hid (∀ W : World, Calls Tryz.prog 86 #[.agg #[.bool (neg q), .string (mag q)], .int .i64 (de y)] W fun r w' => r = .returned (.agg #[.bool (neg (dm (x + y))), .string (mag (dm (x + y))), .int .i64 (de (x + y))]) ∧ Below W.heap.size W w') := by
  have f1 := db_form d1
  have f2 := db_form d2
  have s1 := db_size d1
  have s2 := db_size d2
  have hsh : shiftI (dm x) (de x - de y) = dm x * 2 ^ (de x - de y).toNat := by unfold shiftI; rw [if_pos (by omega)]
  have bm : bsz (dm x * 2 ^ (de x - de y).toNat) ≤ 1100000 := by
    rw [mag_size] at s1
    exact Nat.le_trans (bsz_shl_le s1) (by omega)
  have by' : bsz (dm y) ≤ 1100000 := by rw [mag_size] at s2; omega
  have bq := bsz_add_le bm by'
  refine ⟨de x - de y, dm x * 2 ^ (de x - de y).toNat, dm x * 2 ^ (de x - de y).toNat + dm y, IntWalk.i64_in _ (by omega), ?_, ?_, ?_⟩
  · have h := Lib.hid (fun W => rShift_any (mag (dm x)) (neg (dm x)) (de x - de y) W (by omega) (by omega))
    rw [ival_mk, hsh] at h
    exact h
  · have h := Lib.hid (fun W => rPlusW_any (mag (dm x * 2 ^ (de x - de y).toNat)) (mag (dm y)) (neg (dm x * 2 ^ (de x - de y).toNat)) (neg (dm y)) W (by rw [mag_size]; omega) (by omega))
    rw [ival_mk, ival_mk] at h
    exact h
  · have h := Lib.hid (fun W => rMake_any (mag (dm x * 2 ^ (de x - de y).toNat + dm y)) (neg (dm x * 2 ^ (de x - de y).toNat + dm y)) (de y) W (by rw [mag_size]; omega) (by omega) (by omega))
    rw [ival_mk, ← dy_add, dy_shl, dy_dm] at h
    have e1 : de y + ((de x - de y).toNat : Int) = de x := by omega
    rw [e1, dy_dm] at h
    exact h
theorem rdPlus_any {b c : Bool} {s t : ByteArray} {e f : Int} {x y : Dyadic} {L T0 : Nat} (w : World) (n1 : ND b s e x) (n2 : ND c t f y) (d1 : DB L T0 x) (d2 : DB L T0 y) (hLT : L + T0 ≤ 4000000) :
    Calls Tryz.prog 105 #[.agg #[.bool b, .string s, .int .i64 e], .agg #[.bool c, .string t, .int .i64 f]] w fun r w' => r = .returned (.agg #[.bool (neg (dm (x + y))), .string (mag (dm (x + y))), .int .i64 (de (x + y))]) ∧ Below w.heap.size w w' := by
  have cF := rdForm_nd n1
  have cG := rdForm_nd n2
  have cS := rdSign_vn d1 hLT
  have cT := rdSign_vn d2 hLT
  by_cases hx : x = 0
  · subst hx
    rw [Dyadic.zero_add]
    exact rdPlus_zx s t b c e f _ _ _ (dsgn_eq.2 rfl) w cF cG cS
  · have hsx : ¬ dsgn x = 0 := fun h => hx (dsgn_eq.1 h)
    by_cases hy : y = 0
    · subst hy
      rw [Dyadic.add_zero]
      exact rdPlus_zy s t b c e f _ _ _ _ hsx (dsgn_eq.2 rfl) w cF cG cS cT
    · have hsy : ¬ dsgn y = 0 := fun h => hy (dsgn_eq.1 h)
      by_cases hlt : de x < de y
      · obtain ⟨d, m, q, hw, cH, cP, cM⟩ := plus_parts d2 d1 hLT (by omega)
        rw [Dyadic.add_comm x y]
        exact rdPlus_lt s t b c e f x y _ _ d m q _ hsx hsy hlt hw w cF cG cS cT cH cP cM
      · obtain ⟨d, m, q, hw, cH, cP, cM⟩ := plus_parts d1 d2 hLT (by omega)
        exact rdPlus_ge s t b c e f x y _ _ d m q _ hsx hsy hlt hw w cF cG cS cT cH cP cM

set_option maxRecDepth 100000 in
theorem rdSub_x (s t : ByteArray) (b c : Bool) (e f : Int) (x z : Dyadic) (w : World)
    (cN : Hid (∀ W : World, Calls Tryz.prog 75 #[.agg #[.bool c, .string t, .int .i64 f]] W fun r w' => r = .returned (.agg #[.bool (neg (dm (z))), .string (mag (dm (z))), .int .i64 (de (z))]) ∧ Below W.heap.size W w'))
    (cM : Hid (∀ W : World, Calls Tryz.prog 105 #[.agg #[.bool b, .string s, .int .i64 e], .agg #[.bool (neg (dm (z))), .string (mag (dm (z))), .int .i64 (de (z))]] W fun r w' => r = .returned (.agg #[.bool (neg (dm (x))), .string (mag (dm (x))), .int .i64 (de (x))]) ∧ Below W.heap.size W w'))
    :
    Calls Tryz.prog 104 #[.agg #[.bool b, .string s, .int .i64 e], .agg #[.bool c, .string t, .int .i64 f]] w fun r w' => r = .returned (.agg #[.bool (neg (dm (x))), .string (mag (dm (x))), .int .i64 (de (x))]) ∧ Below w.heap.size w w' :=
  RetAt.at <| ret_sk ttOk mixed (fun a w => Tryz.call104 a w) Tryz.func104 Tryz.ntmps104 Tryz.results104 _ rfl _ [.reg 4 [], .o 1 2 (.ret (.val (vN (z)))), .o 1 3 (.ret (.val (vN (x))))] (fun W hW hR => ai (rc W Tryz.call75 fun W => cN.out W) <| ai (rc W Tryz.call105 fun W => cM.out W) <| hR) fun W => by kernel_rfl

theorem rdSub_any {b c : Bool} {s t : ByteArray} {e f : Int} {x y : Dyadic} {L T0 : Nat} (w : World) (n1 : ND b s e x) (n2 : ND c t f y) (d1 : DB L T0 x) (d2 : DB L T0 y) (hLT : L + T0 ≤ 4000000) :
    Calls Tryz.prog 104 #[.agg #[.bool b, .string s, .int .i64 e], .agg #[.bool c, .string t, .int .i64 f]] w fun r w' => r = .returned (.agg #[.bool (neg (dm (x - y))), .string (mag (dm (x - y))), .int .i64 (de (x - y))]) ∧ Below w.heap.size w w' := by
  have cN := Lib.hid (fun W => rdNeg_any t c f W (Nat.le_trans n2.size (by decide)) n2.lo (by have := n2.hi; omega))
  rw [n2.val] at cN
  have cM := Lib.hid (fun W => rdPlus_any W n1 (nd_db (db_neg d2) hLT) d1 (db_neg d2) hLT)
  rw [show x + -y = x - y by grind] at cM
  exact rdSub_x s t b c e f _ _ w cN cM

set_option maxRecDepth 100000 in
set_option maxHeartbeats 1000000 in
theorem rdCmp_x (s t : ByteArray) (b c : Bool) (e f g : Int) (x : Dyadic) (w : World)
    (cM : Hid (∀ W : World, Calls Tryz.prog 104 #[.agg #[.bool b, .string s, .int .i64 e], .agg #[.bool c, .string t, .int .i64 f]] W fun r w' => r = .returned (.agg #[.bool (neg (dm (x))), .string (mag (dm (x))), .int .i64 (de (x))]) ∧ Below W.heap.size W w'))
    (cS : Hid (∀ W : World, Calls Tryz.prog 24 #[.agg #[.bool (neg (dm (x))), .string (mag (dm (x))), .int .i64 (de (x))]] W fun r w' => r = .returned (.int .i64 g) ∧ Below W.heap.size W w'))
    :
    Calls Tryz.prog 99 #[.agg #[.bool b, .string s, .int .i64 e], .agg #[.bool c, .string t, .int .i64 f]] w fun r w' => r = .returned (.int .i64 g) ∧ Below w.heap.size w w' := by
  go_enter Tryz.func99, Tryz.ntmps99
  go_upto_region 1 with (fail)
  have X1 := (Bx.new w 25 #[.bool b, .string s, .int .i64 e]).alloc (.cells #[.bool c, .string t, .int .i64 f] 25)
  have X2 := Bx.at1 w (.cells #[.bool b, .string s, .int .i64 e] 25) 25 #[.bool c, .string t, .int .i64 f]
  have hB := b2 w (.cells #[.bool b, .string s, .int .i64 e] 25) (.cells #[.bool c, .string t, .int .i64 f] 25)
  generalize (w.alloc (.cells #[.bool b, .string s, .int .i64 e] 25)).alloc (.cells #[.bool c, .string t, .int .i64 f] 25) = w0 at *
  have hl0 := X1.lt
  have hl1 := X2.lt
  obtain ⟨p1, p2, p5, p3, p4, p6⟩ := X1.three
  obtain ⟨q1, q2, q5, q3, q4, q6⟩ := X2.three
  go_wp2_with fail
  refine (cM.out _).mono ?_
  rintro e w1 ⟨rfl, hb⟩
  replace X1 := X1.later hb
  replace X2 := X2.later hb
  replace hB := nxt hB hb
  clear hb
  clear p1 p2 p3 p4 p5 p6 q1 q2 q3 q4 q5 q6
  obtain ⟨p1, p2, p5, p3, p4, p6⟩ := X1.three
  obtain ⟨q1, q2, q5, q3, q4, q6⟩ := X2.three
  go_wp2_with fail
  refine (cS.out _).mono ?_
  rintro e w2 ⟨rfl, hb⟩
  replace X1 := X1.later hb
  replace X2 := X2.later hb
  replace hB := nxt hB hb
  clear hb
  clear p1 p2 p3 p4 p5 p6 q1 q2 q3 q4 q5 q6
  obtain ⟨p1, p2, p5, p3, p4, p6⟩ := X1.three
  obtain ⟨q1, q2, q5, q3, q4, q6⟩ := X2.three
  go_wp2
  go_ret
  exact ⟨rfl, hB⟩
theorem rdCmp_any {b c : Bool} {s t : ByteArray} {e f : Int} {x y : Dyadic} {L T0 : Nat} (w : World) (n1 : ND b s e x) (n2 : ND c t f y) (d1 : DB L T0 x) (d2 : DB L T0 y) (hLT : L + T0 ≤ 3000000) :
    Calls Tryz.prog 99 #[.agg #[.bool b, .string s, .int .i64 e], .agg #[.bool c, .string t, .int .i64 f]] w fun r w' => r = .returned (.int .i64 (dsgn (x - y))) ∧ Below w.heap.size w w' := by
  exact rdCmp_x s t b c e f _ _ w (Lib.hid fun W => rdSub_any W n1 n2 d1 d2 (by omega)) (rdSign_vn (db_sub d1 d2) (by omega))

set_option maxRecDepth 100000 in
set_option maxHeartbeats 1000000 in
theorem rdFloor_keep (s : ByteArray) (b : Bool) (e p g : Int) (x : Dyadic) (w : World) (hw : IntKind.i64.wrap (de x + p) = g) (hA : 0 ≤ g)
    (cF : Hid (∀ W : World, Calls Tryz.prog 82 #[.agg #[.bool b, .string s, .int .i64 e]] W fun r w' => r = .returned (.agg #[.bool (neg (dm (x))), .string (mag (dm (x))), .int .i64 (de (x))]) ∧ Below W.heap.size W w'))
    :
    Calls Tryz.prog 95 #[.agg #[.bool b, .string s, .int .i64 e], .int .i64 p] w fun r w' => r = .returned (.agg #[.bool (neg (dm (x))), .string (mag (dm (x))), .int .i64 (de (x))]) ∧ Below w.heap.size w w' := by
  go_enter Tryz.func95, Tryz.ntmps95
  go_upto_region 1 with (fail)
  have X1 := (Bx.new w 25 #[.bool b, .string s, .int .i64 e]).alloc (.cells #[.bool false, .string ⟨#[]⟩, .int .i64 0] 25)
  have X2 := Bx.at1 w (.cells #[.bool b, .string s, .int .i64 e] 25) 25 #[.bool false, .string ⟨#[]⟩, .int .i64 0]
  have hB := b2 w (.cells #[.bool b, .string s, .int .i64 e] 25) (.cells #[.bool false, .string ⟨#[]⟩, .int .i64 0] 25)
  generalize (w.alloc (.cells #[.bool b, .string s, .int .i64 e] 25)).alloc (.cells #[.bool false, .string ⟨#[]⟩, .int .i64 0] 25) = w0 at *
  have hl0 := X1.lt
  have hl1 := X2.lt
  obtain ⟨p1, p2, p5, p3, p4, p6⟩ := X1.three
  go_wp2_with fail
  refine (cF.out _).mono ?_
  rintro e w1 ⟨rfl, hb⟩
  replace X1 := X1.later hb
  replace X2 := X2.later hb
  replace hB := nxt hB hb
  clear hb p1 p2 p5 p3 p4 p6
  have hne : w.heap.size + 1 ≠ w.heap.size := by omega
  have Y1 := X1.set3 (.bool (neg (dm (x)))) (.string (mag (dm (x)))) (.int .i64 (de (x)))
  have Y2 := Bx.far3 (i := 0) (j := 1) (k := 2) X2 hne (.bool (neg (dm (x)))) (.string (mag (dm (x)))) (.int .i64 (de (x)))
  have hB2 := st3 hB (Nat.le_refl _) (.bool (neg (dm (x)))) (.string (mag (dm (x)))) (.int .i64 (de (x)))
  obtain ⟨p1, p2, p5, p3, p4, p6⟩ := X1.three
  obtain ⟨r1, r2, r5, r3, r4, r6⟩ := Y1.three
  obtain ⟨t1, t2, t5, t3, t4, t6⟩ := Y2.three
  have HY := Lib.hid (And.intro Y2 hB2)
  clear X1 X2 Y1 Y2 hB hB2 hne
  go_wp2_with fail
  exact bodyPost_ret (v := .agg #[.bool (neg (dm (x))), .string (mag (dm (x))), .int .i64 (de (x))]) (by simp [results, Tryz.results95, go_sem, (HY.out.1.set3 _ _ _).cel]) rfl ⟨rfl, st3 HY.out.2 (Nat.le_add_right _ 1) _ _ _⟩

set_option maxRecDepth 100000 in
set_option maxHeartbeats 1000000 in
theorem rdFloor_cut (s : ByteArray) (b : Bool) (e p g n1 d k q m : Int) (x z : Dyadic) (w : World) (hw : IntKind.i64.wrap (de x + p) = g) (hA : g < 0) (hw1 : IntKind.i64.wrap (-(de x)) = n1) (hw2 : IntKind.i64.wrap (n1 - p) = d) (hw3 : IntKind.i64.wrap (-p) = -p)
    (cF : Hid (∀ W : World, Calls Tryz.prog 82 #[.agg #[.bool b, .string s, .int .i64 e]] W fun r w' => r = .returned (.agg #[.bool (neg (dm (x))), .string (mag (dm (x))), .int .i64 (de (x))]) ∧ Below W.heap.size W w'))
    (cO : Hid (∀ W : World, Calls Tryz.prog 88 #[.int .i64 1] W fun r w' => r = .returned (.agg #[.bool (neg (1)), .string (mag (1))]) ∧ Below W.heap.size W w'))
    (cH : Hid (∀ W : World, Calls Tryz.prog 85 #[.agg #[.bool (neg (1)), .string (mag (1))], .int .i64 d] W fun r w' => r = .returned (.agg #[.bool (neg (k)), .string (mag (k))]) ∧ Below W.heap.size W w'))
    (cD : Hid (∀ W : World, Calls Tryz.prog 84 #[.agg #[.bool (neg (dm (x))), .string (mag (dm (x)))], .agg #[.bool (neg (k)), .string (mag (k))]] W fun r w' => r = .returned (.tuple #[.agg #[.bool (neg (q)), .string (mag (q))], .agg #[.bool (neg (m)), .string (mag (m))], .bool true]) ∧ Below W.heap.size W w'))
    (cM : Hid (∀ W : World, Calls Tryz.prog 86 #[.agg #[.bool (neg (q)), .string (mag (q))], .int .i64 (-p)] W fun r w' => r = .returned (.agg #[.bool (neg (dm (z))), .string (mag (dm (z))), .int .i64 (de (z))]) ∧ Below W.heap.size W w'))
    :
    Calls Tryz.prog 95 #[.agg #[.bool b, .string s, .int .i64 e], .int .i64 p] w fun r w' => r = .returned (.agg #[.bool (neg (dm (z))), .string (mag (dm (z))), .int .i64 (de (z))]) ∧ Below w.heap.size w w' := by
  go_enter Tryz.func95, Tryz.ntmps95
  go_upto_region 1 with (fail)
  have X1 := (Bx.new w 25 #[.bool b, .string s, .int .i64 e]).alloc (.cells #[.bool false, .string ⟨#[]⟩, .int .i64 0] 25)
  have X2 := Bx.at1 w (.cells #[.bool b, .string s, .int .i64 e] 25) 25 #[.bool false, .string ⟨#[]⟩, .int .i64 0]
  have hB := b2 w (.cells #[.bool b, .string s, .int .i64 e] 25) (.cells #[.bool false, .string ⟨#[]⟩, .int .i64 0] 25)
  generalize (w.alloc (.cells #[.bool b, .string s, .int .i64 e] 25)).alloc (.cells #[.bool false, .string ⟨#[]⟩, .int .i64 0] 25) = w0 at *
  have hl0 := X1.lt
  have hl1 := X2.lt
  obtain ⟨p1, p2, p5, p3, p4, p6⟩ := X1.three
  go_wp2_with fail
  refine (cF.out _).mono ?_
  rintro e w1 ⟨rfl, hb⟩
  replace X1 := X1.later hb
  replace X2 := X2.later hb
  replace hB := nxt hB hb
  clear hb p1 p2 p5 p3 p4 p6
  have hne : w.heap.size + 1 ≠ w.heap.size := by omega
  have Y1 := X1.set3 (.bool (neg (dm (x)))) (.string (mag (dm (x)))) (.int .i64 (de (x)))
  have Y2 := Bx.far3 (i := 0) (j := 1) (k := 2) X2 hne (.bool (neg (dm (x)))) (.string (mag (dm (x)))) (.int .i64 (de (x)))
  have hB2 := st3 hB (Nat.le_refl _) (.bool (neg (dm (x)))) (.string (mag (dm (x)))) (.int .i64 (de (x)))
  obtain ⟨p1, p2, p5, p3, p4, p6⟩ := X1.three
  obtain ⟨r1, r2, r5, r3, r4, r6⟩ := Y1.three
  have HK := Lib.hid (And.intro Y1 (And.intro Y2 hB2))
  clear X1 X2 Y1 Y2 hB hB2 hne
  go_upto_region 4 with (fail)
  obtain ⟨Y1, Y2, hB⟩ := HK.out
  clear HK p1 p2 p5 p3 p4 p6 r1 r2 r5 r3 r4 r6
  generalize ((w1.setCell ⟨w.heap.size, 0, none⟩ (.bool (neg (dm (x))))).setCell ⟨w.heap.size, 1, none⟩ (.string (mag (dm (x))))).setCell ⟨w.heap.size, 2, none⟩ (.int .i64 (de (x))) = w2 at *
  have l2 := Y2.lt
  refine wp_region_kl [17, 18, 19, 20, 21, 22, 23, 24, 25, 26, 16, 27, 28, 29, 5, 6] [.eq (.pointer (some ⟨w.heap.size, 0, none⟩)), .eq (.agg #[.bool (neg (dm (x))), .string (mag (dm (x)))]), .eq (.agg #[.bool (neg (1)), .string (mag (1))]), .eq (.pointer (some ⟨w.heap.size, 2, none⟩)), .eq (.int .i64 (de (x))), .eq (.int .i64 (n1)), .eq (.int .i64 (p)), .eq (.int .i64 (d)), .eq (.agg #[.bool (neg (k)), .string (mag (k))]), .eq (.tuple #[.agg #[.bool (neg (q)), .string (mag (q))], .agg #[.bool (neg (m)), .string (mag (m))], .bool true]), .eq (.tuple #[.agg #[.bool (neg (q)), .string (mag (q))], .agg #[.bool (neg (m)), .string (mag (m))], .bool true]), .eq (.agg #[.bool (neg (q)), .string (mag (q))]), .eq (.agg #[.bool (neg (m)), .string (mag (m))]), .eq (.bool true), .ptr w2.heap.size 23 #[.bool false, .string ⟨#[]⟩], .ptr w2.heap.size 23 #[.bool false, .string ⟨#[]⟩]] [12, 13] 34 (by kernel_rfl) (by exact fun _ _ _ _ _ h => h) (by kernel_rfl) (by rfl) ?hop ?hlate ?htail
  case hop =>
    intro A hA
    have hN : A.tmps.size = 34 := by rw [hA]; rfl
    have q2 : A.tmps.getD 2 undef = .pointer (some ⟨w.heap.size, 0, none⟩) := by rw [hA]; rfl
    have q1 : A.tmps.getD 1 undef = .int .i64 (p) := by rw [hA]; rfl
    clear hA
    refine ⟨?_, ?_, ?_, ?_, ?_, ?_, ?_, ?_, ?_, ?_, ?_, ?_, ?_, ?_, ?_, ?_, trivial⟩
    · refine kok hN fun u W ev ec ef E B hG hf => ?_
      exact k_val _ rfl rfl hG (by simp [go_sem, B 2 rfl rfl q2]) rfl
    · refine kok hN fun u W ev ec ef E B hG hf => ?_
      exact k_val _ rfl rfl hG (by simp [go_sem, E 17 0 rfl rfl (hf 0 rfl), (Y1.later hG).cel]) rfl
    · refine kok hN fun u W ev ec ef E B hG hf => ?_
      exact k_cl rfl rfl (by simp [go_sem, ec, ef]) (cO.out W) hG (fun _ _ => rfl)
    · refine kok hN fun u W ev ec ef E B hG hf => ?_
      exact k_val _ rfl rfl hG (by simp [go_sem, B 2 rfl rfl q2]) rfl
    · refine kok hN fun u W ev ec ef E B hG hf => ?_
      exact k_val _ rfl rfl hG (by simp [go_sem, E 20 3 rfl rfl (hf 3 rfl), (Y1.later hG).cel]) rfl
    · refine kok hN fun u W ev ec ef E B hG hf => ?_
      exact k_val _ rfl rfl hG (by simp [go_sem, E 21 4 rfl rfl (hf 4 rfl), hw1]) rfl
    · refine kok hN fun u W ev ec ef E B hG hf => ?_
      exact k_val _ rfl rfl hG (by simp [go_sem, B 1 rfl rfl q1]) rfl
    · refine kok hN fun u W ev ec ef E B hG hf => ?_
      exact k_val _ rfl rfl hG (by simp [go_sem, E 22 5 rfl rfl (hf 5 rfl), E 23 6 rfl rfl (hf 6 rfl), hw2]) rfl
    · refine kok hN fun u W ev ec ef E B hG hf => ?_
      exact k_cl rfl rfl (by simp [go_sem, ef, E 19 2 rfl rfl (hf 2 rfl), E 24 7 rfl rfl (hf 7 rfl)]) (cH.out W) hG (fun _ _ => rfl)
    · refine kok hN fun u W ev ec ef E B hG hf => ?_
      exact k_cl rfl rfl (by simp [go_sem, ef, E 18 1 rfl rfl (hf 1 rfl), E 25 8 rfl rfl (hf 8 rfl)]) (cD.out W) hG (fun _ _ => rfl)
    · refine kok hN fun u W ev ec ef E B hG hf => ?_
      exact k_val _ rfl rfl hG (by simp [go_sem, E 26 9 rfl rfl (hf 9 rfl)]) rfl
    · refine kok hN fun u W ev ec ef E B hG hf => ?_
      exact k_val _ rfl rfl hG (by simp [go_sem, E 16 10 rfl rfl (hf 10 rfl)]) rfl
    · refine kok hN fun u W ev ec ef E B hG hf => ?_
      exact k_val _ rfl rfl hG (by simp [go_sem, E 16 10 rfl rfl (hf 10 rfl)]) rfl
    · refine kok hN fun u W ev ec ef E B hG hf => ?_
      exact k_val _ rfl rfl hG (by simp [go_sem, E 16 10 rfl rfl (hf 10 rfl)]) rfl
    · refine kok hN fun u W ev ec ef E B hG hf => ?_
      exact k_new _ _ rfl (by simp [go_sem]) (nxtA hG _) ⟨_, rfl, below_le hG, Bx.new _ _ _⟩ rfl
    · refine kok hN fun u W ev ec ef E B hG hf => ?_
      exact k_new _ _ rfl (by simp [go_sem]) (nxtA hG _) ⟨_, rfl, below_le hG, Bx.new _ _ _⟩ rfl
  case hlate =>
    intro A hA
    have hN : A.tmps.size = 34 := by rw [hA]; rfl
    clear hA
    refine ⟨trivial, trivial, trivial, trivial, trivial, trivial, trivial, trivial, trivial, trivial, trivial, trivial, ⟨rfl, ?_⟩, ⟨rfl, ?_⟩, trivial, trivial, trivial⟩
    · intro u W hf
      have e16 := frm_head (a := A) (ds := [17, 18, 19, 20, 21, 22, 23, 24, 25, 26, 16, 27, 28, 29, 5, 6]) (u := u) (k := 16) (i := 10) (by rw [hN]; decide) rfl (hf 10 (by decide))
      generalize (frm A [17, 18, 19, 20, 21, 22, 23, 24, 25, 26, 16, 27, 28, 29, 5, 6] u).eval = ev at *
      exact ⟨_, rfl, fun w => (by simp [go_sem, e16]), rfl⟩
    · intro u W hf
      have e16 := frm_head (a := A) (ds := [17, 18, 19, 20, 21, 22, 23, 24, 25, 26, 16, 27, 28, 29, 5, 6]) (u := u) (k := 16) (i := 10) (by rw [hN]; decide) rfl (hf 10 (by decide))
      generalize (frm A [17, 18, 19, 20, 21, 22, 23, 24, 25, 26, 16, 27, 28, 29, 5, 6] u).eval = ev at *
      exact ⟨_, rfl, fun w => (by simp [go_sem, e16]), rfl⟩
  case htail =>
    intro u w' hG hP hD
    have f27 : u 11 = .agg #[.bool (neg (q)), .string (mag (q))] := hP 11 (by decide)
    have f28 : u 12 = .agg #[.bool (neg (m)), .string (mag (m))] := hP 12 (by decide)
    have f29 : u 13 = .bool true := hP 13 (by decide)
    obtain ⟨g5, f5, hb5, hx5⟩ : ptrK w2.heap.size 23 #[.bool false, .string ⟨#[]⟩] (u 14) w' := hP 14 (by decide)
    obtain ⟨g6, f6, hb6, hx6⟩ : ptrK w2.heap.size 23 #[.bool false, .string ⟨#[]⟩] (u 15) w' := hP 15 (by decide)
    have hne : g5 ≠ g6 := fun e => hD 14 15 (by decide) (by decide) rfl rfl (by decide) (by rw [f5, f6, e])
    simp only [putAll, Act.put, List.setIfInBounds_toArray, List.set_cons_zero, List.set_cons_succ, List.length_cons, List.length_nil, Nat.reduceAdd, List.drop_succ_cons, List.drop_zero, f27, f28, f29, f5, f6]
    have hz1 := hB.size
    have n5 : w.heap.size + 1 ≠ g5 := by omega
    have n6 : w.heap.size + 1 ≠ g6 := by omega
    have hB0 := nxt hB hG
    have Y6 := Bx.far2 (i := 0) (j := 1) hx6 (Ne.symm hne) (.bool (neg (q))) (.string (mag (q)))
    have Z5 := Bx.far2 (i := 0) (j := 1) (hx5.set2 (.bool (neg (q))) (.string (mag (q)))) hne (.bool (neg (m))) (.string (mag (m)))
    have Z2 := Bx.far2 (i := 0) (j := 1) (Bx.far2 (i := 0) (j := 1) (Y2.later hG) n5 (.bool (neg (q))) (.string (mag (q)))) n6 (.bool (neg (m))) (.string (mag (m)))
    have hB2 := st2 (st2 hB0 (Nat.le_trans hz1 hb5) (.bool (neg (q))) (.string (mag (q)))) (Nat.le_trans hz1 hb6) (.bool (neg (m))) (.string (mag (m)))
    obtain ⟨t1, t2, t3, t4⟩ := Y6.two
    obtain ⟨v1, v2, v3, v4⟩ := hx5.two
    obtain ⟨x1, x2, x3, x4⟩ := Z5.two
    have HK := Lib.hid (And.intro Z2 hB2)
    clear f27 f28 f29 f5 f6 hP hD hG hB hB0 hB2 Y1 Y2 Y6 Z5 Z2 hx5 hx6 hne n5 n6 hz1 hb5 hb6 l2
    go_wp2_with fail
    obtain ⟨Z2, hB⟩ := HK.out
    clear HK t1 t2 t3 t4 v1 v2 v3 v4 x1 x2 x3 x4
    generalize (((w'.setCell ⟨g5, 0, none⟩ (.bool (neg (q)))).setCell ⟨g5, 1, none⟩ (.string (mag (q)))).setCell ⟨g6, 0, none⟩ (.bool (neg (m)))).setCell ⟨g6, 1, none⟩ (.string (mag (m))) = w4 at *
    refine (cM.out _).mono ?_
    rintro e w5 ⟨rfl, hb⟩
    replace Z2 := Z2.later hb
    replace hB := nxt hB hb
    clear hb
    obtain ⟨t1, t2, t5, t3, t4, t6⟩ := Z2.three
    go_wp2_with fail
    exact bodyPost_ret (v := .agg #[.bool (neg (dm (z))), .string (mag (dm (z))), .int .i64 (de (z))]) (by simp [results, Tryz.results95, go_sem, (Z2.set3 _ _ _).cel]) rfl ⟨rfl, st3 hB (Nat.le_add_right _ 1) _ _ _⟩

theorem rdFloor_any {b : Bool} {s : ByteArray} {e : Int} {x : Dyadic} {L T0 : Nat} (p : Int) (w : World) (n1 : ND b s e x) (d1 : DB L T0 x) (hLT : L + T0 ≤ 4000000) (hp1 : -4000000 ≤ p) (hp2 : p ≤ 4000000) :
    Calls Tryz.prog 95 #[.agg #[.bool b, .string s, .int .i64 e], .int .i64 p] w fun r w' => r = .returned (.agg #[.bool (neg (dm (x.roundDown p))), .string (mag (dm (x.roundDown p))), .int .i64 (de (x.roundDown p))]) ∧ Below w.heap.size w w' := by
  have cF := rdForm_nd n1
  have f1 := db_form d1
  have s1 := db_size d1
  rw [roundDown_eq]
  by_cases hA : -p ≤ de x
  · rw [if_pos hA]
    exact rdFloor_keep s b e p _ x w rfl (by rw [IntWalk.i64_in _ (by omega)]; omega) cF
  · rw [if_neg hA]
    have cH := Lib.hid (fun W => rShift_any (mag 1) (neg 1) (-p - de x) W (by decide) (by omega))
    rw [ival_mk] at cH
    have eq : shiftI 1 (-p - de x) = 2 ^ (-p - de x).toNat := by unfold shiftI; rw [if_pos (by omega), Int.one_mul]
    rw [eq] at cH
    have hk0 : (2 : Int) ^ (-p - de x).toNat ≠ 0 := Int.ne_of_gt (Int.pow_pos (by decide))
    have bk : bsz ((2 : Int) ^ (-p - de x).toNat) ≤ 2000000 := by
      rw [← Int.one_mul ((2 : Int) ^ (-p - de x).toNat)]
      exact Nat.le_trans (bsz_shl_le (n := 1) (bsz_le (by decide))) (by omega)
    have cD := Lib.hid (fun W => rWDiv_any (mag (dm x)) (mag ((2 : Int) ^ (-p - de x).toNat)) (neg (dm x)) (neg ((2 : Int) ^ (-p - de x).toNat)) W (by omega) (by rw [mag_size]; omega))
    rw [if_neg (by rw [sval_mag]; omega), ival_mk, ival_mk] at cD
    have cM := Lib.hid (fun W => rMake_any (mag (dm x / 2 ^ (-p - de x).toNat)) (neg (dm x / 2 ^ (-p - de x).toNat)) (-p) W (by
      rw [mag_size]
      rw [mag_size] at s1
      exact Nat.le_trans (bsz_natAbs_le (Int.natAbs_ediv_le_natAbs _ _)) (by omega)) (by omega) (by omega))
    rw [ival_mk] at cM
    exact rdFloor_cut s b e p _ _ (-p - de x) _ _ _ x _ w rfl (by rw [IntWalk.i64_in _ (by omega)]; omega) rfl (by rw [IntWalk.i64_in (-(de x)) (by omega), IntWalk.i64_in _ (by omega)]; omega) (IntWalk.i64_in _ (by omega)) cF (Lib.hid fun W => rWOf_any 1 W (by decide) (by decide)) cH cD cM

end Go.Proofs.YtchfglbkiebfpaaGreatDoor

namespace Go.Proofs.YtchfglbkiebfpaaGreatDoor
open Go.RowKit

theorem neg_form (x : Dyadic) : dm (-x) = -dm x ∧ de (-x) = de x := by
  by_cases h : x = 0
  · subst h; exact ⟨rfl, rfl⟩
  · have h1 := dm_odd h
    have h2 : -x = dy (-dm x) (de x) := by rw [← dy_neg, dy_dm]
    rw [h2]
    exact dy_of_odd (de x) (by omega)
theorem neg_ediv_up {m b : Int} (hb : 0 < b) (h : m % b ≠ 0) : -((-m) / b) = m / b + 1 := by
  have h1 := Int.mul_ediv_add_emod m b
  have h2 := Int.emod_nonneg m (Int.ne_of_gt hb)
  have h3 := Int.emod_lt_of_pos m hb
  generalize m % b = r at *
  generalize m / b = q at *
  have e : -m = (b - r) + b * (-q - 1) := by
    rw [← h1, Int.mul_sub, Int.mul_neg, Int.mul_one]; omega
  rw [e, Int.add_mul_ediv_left _ _ (Int.ne_of_gt hb), Int.ediv_eq_zero_of_lt (by omega) (by omega)]
  omega
theorem roundUp_eq (x : Dyadic) (p : Int) : x.roundUp p = if x.roundDown p = x then x else x.roundDown p + dy 1 (-p) := by
  obtain ⟨n1, n2⟩ := neg_form x
  rw [Dyadic.roundUp_eq_neg_roundDown_neg, roundDown_eq (-x), roundDown_eq x, n1, n2]
  by_cases hA : -p ≤ de x
  · rw [if_pos hA, if_pos hA, if_pos rfl]; grind
  · rw [if_neg hA, if_neg hA]
    obtain ⟨k, hk⟩ : ∃ k : Nat, k = (-p - de x).toNat := ⟨_, rfl⟩
    rw [← hk]
    have hk1 : -p = de x + (k : Int) := by omega
    have hb : (0 : Int) < 2 ^ k := Int.pow_pos (by decide)
    by_cases hx : x = 0
    · subst hx
      have e0 : dm (0 : Dyadic) = 0 := rfl
      rw [e0, Int.neg_zero, Int.zero_ediv, dy_zero, if_pos rfl]; grind
    · have hodd := dm_odd hx
      have hm : dm x % 2 ^ k ≠ 0 := by
        intro h
        have hd := Int.dvd_of_emod_eq_zero h
        have h2 : (2 : Int) ∣ 2 ^ k := by
          obtain ⟨j, hj⟩ : ∃ j, k = j + 1 := ⟨k - 1, by omega⟩
          rw [hj, Int.pow_succ]; exact Int.dvd_mul_left _ _
        have := Int.dvd_trans h2 hd
        omega
      rw [if_neg (fun h => hm ?_), dy_neg, neg_ediv_up hb hm, dy_add]
      rw [hk1, ← dy_shl] at h
      have h3 : dy (dm x / 2 ^ k * 2 ^ k) (de x) = dy (dm x) (de x) := by rw [h, dy_dm]
      have h4 := dy_inj.1 h3
      rw [← h4]
      exact Int.mul_emod_left _ _
theorem db_floor {L T P : Nat} {x : Dyadic} {p : Int} (d1 : DB L T x) (h1 : -(P : Int) ≤ p) (h2 : p ≤ P) : DB (L + P) (L + T + P) (x.roundDown p) := by
  rw [roundDown_eq]
  split
  · exact db_up d1 (by omega) (by omega)
  · have f := (db_form d1).2.2
    exact db_raw (S := L + T) (Nat.lt_of_le_of_lt (Int.natAbs_ediv_le_natAbs _ _) f) (by omega) (by omega)

set_option maxRecDepth 100000 in
theorem rdCeil_keep (s : ByteArray) (b : Bool) (e p g : Int) (f : Dyadic) (w : World) (hg : g = 0)
    (cF : Hid (∀ W : World, Calls Tryz.prog 95 #[.agg #[.bool b, .string s, .int .i64 e], .int .i64 p] W fun r w' => r = .returned (.agg #[.bool (neg (dm (f))), .string (mag (dm (f))), .int .i64 (de (f))]) ∧ Below W.heap.size W w'))
    (cC : Hid (∀ W : World, Calls Tryz.prog 99 #[.agg #[.bool (neg (dm (f))), .string (mag (dm (f))), .int .i64 (de (f))], .agg #[.bool b, .string s, .int .i64 e]] W fun r w' => r = .returned (.int .i64 g) ∧ Below W.heap.size W w'))
    :
    Calls Tryz.prog 96 #[.agg #[.bool b, .string s, .int .i64 e], .int .i64 p] w fun r w' => r = .returned (.agg #[.bool (neg (dm (f))), .string (mag (dm (f))), .int .i64 (de (f))]) ∧ Below w.heap.size w w' :=
  RetAt.at <| ret_sk ttOk mixed (fun a w => Tryz.call96 a w) Tryz.func96 Tryz.ntmps96 Tryz.results96 _ rfl _ [.o 1 2 (.ret (.val (vN (f)))), .o 2 2 (.ret (.val (.int .i64 g))), .br true] (fun W hW hR => ai (rc W Tryz.call95 fun W => cF.out W) <| ai (rc W Tryz.call99 fun W => cC.out W) <| ai (eq_y hg) <| hR) fun W => by kernel_rfl

set_option maxRecDepth 100000 in
set_option maxHeartbeats 1000000 in
theorem rdCeil_up (s : ByteArray) (b : Bool) (e p g : Int) (f u1 z : Dyadic) (w : World) (hg : ¬ g = 0) (hw : IntKind.i64.wrap (-p) = -p)
    (cF : Hid (∀ W : World, Calls Tryz.prog 95 #[.agg #[.bool b, .string s, .int .i64 e], .int .i64 p] W fun r w' => r = .returned (.agg #[.bool (neg (dm (f))), .string (mag (dm (f))), .int .i64 (de (f))]) ∧ Below W.heap.size W w'))
    (cC : Hid (∀ W : World, Calls Tryz.prog 99 #[.agg #[.bool (neg (dm (f))), .string (mag (dm (f))), .int .i64 (de (f))], .agg #[.bool b, .string s, .int .i64 e]] W fun r w' => r = .returned (.int .i64 g) ∧ Below W.heap.size W w'))
    (cO : Hid (∀ W : World, Calls Tryz.prog 88 #[.int .i64 1] W fun r w' => r = .returned (.agg #[.bool (neg (1)), .string (mag (1))]) ∧ Below W.heap.size W w'))
    (cM : Hid (∀ W : World, Calls Tryz.prog 86 #[.agg #[.bool (neg (1)), .string (mag (1))], .int .i64 (-p)] W fun r w' => r = .returned (.agg #[.bool (neg (dm (u1))), .string (mag (dm (u1))), .int .i64 (de (u1))]) ∧ Below W.heap.size W w'))
    (cP : Hid (∀ W : World, Calls Tryz.prog 105 #[.agg #[.bool (neg (dm (f))), .string (mag (dm (f))), .int .i64 (de (f))], .agg #[.bool (neg (dm (u1))), .string (mag (dm (u1))), .int .i64 (de (u1))]] W fun r w' => r = .returned (.agg #[.bool (neg (dm (z))), .string (mag (dm (z))), .int .i64 (de (z))]) ∧ Below W.heap.size W w'))
    :
    Calls Tryz.prog 96 #[.agg #[.bool b, .string s, .int .i64 e], .int .i64 p] w fun r w' => r = .returned (.agg #[.bool (neg (dm (z))), .string (mag (dm (z))), .int .i64 (de (z))]) ∧ Below w.heap.size w w' := by
  go_enter Tryz.func96, Tryz.ntmps96
  go_upto_region 1 with (fail)
  have X1 := (Bx.new w 25 #[.bool b, .string s, .int .i64 e]).alloc (.cells #[.bool false, .string ⟨#[]⟩, .int .i64 0] 25)
  have X2 := Bx.at1 w (.cells #[.bool b, .string s, .int .i64 e] 25) 25 #[.bool false, .string ⟨#[]⟩, .int .i64 0]
  have hB := b2 w (.cells #[.bool b, .string s, .int .i64 e] 25) (.cells #[.bool false, .string ⟨#[]⟩, .int .i64 0] 25)
  generalize (w.alloc (.cells #[.bool b, .string s, .int .i64 e] 25)).alloc (.cells #[.bool false, .string ⟨#[]⟩, .int .i64 0] 25) = w0 at *
  have hl0 := X1.lt
  have hl1 := X2.lt
  obtain ⟨p1, p2, p5, p3, p4, p6⟩ := X1.three
  go_wp2_with fail
  refine (cF.out _).mono ?_
  rintro e w1 ⟨rfl, hb⟩
  have l1 := X2.lt
  have hb0 := hb.size
  replace X1 := X1.later hb
  replace X2 := X2.later hb
  replace hB := nxt hB hb
  clear hb p1 p2 p5 p3 p4 p6
  have X3 := Bx.new w1 25 #[.bool (neg (dm (f))), .string (mag (dm (f))), .int .i64 (de (f))]
  replace X1 := X1.alloc (.cells #[.bool (neg (dm (f))), .string (mag (dm (f))), .int .i64 (de (f))] 25)
  replace X2 := X2.alloc (.cells #[.bool (neg (dm (f))), .string (mag (dm (f))), .int .i64 (de (f))] 25)
  replace hB := nxtA hB (.cells #[.bool (neg (dm (f))), .string (mag (dm (f))), .int .i64 (de (f))] 25)
  obtain ⟨p1, p2, p5, p3, p4, p6⟩ := X1.three
  obtain ⟨r1, r2, r5, r3, r4, r6⟩ := X3.three
  go_wp2_with fail
  generalize w1.alloc (.cells #[.bool (neg (dm (f))), .string (mag (dm (f))), .int .i64 (de (f))] 25) = w2 at *
  generalize w1.heap.size = g5 at *
  refine (cC.out _).mono ?_
  rintro e w3 ⟨rfl, hb⟩
  replace X1 := X1.later hb
  replace X2 := X2.later hb
  replace X3 := X3.later hb
  replace hB := nxt hB hb
  clear hb p1 p2 p5 p3 p4 p6 r1 r2 r5 r3 r4 r6 l1 hb0
  obtain ⟨r1, r2, r5, r3, r4, r6⟩ := X3.three
  obtain ⟨q1, q2, q5, q3, q4, q6⟩ := X2.three
  have HX := Lib.hid (And.intro X2 (And.intro X3 hB))
  clear X1 X2 X3 hB
  go_upto_region 4 with (fail)
  obtain ⟨X2, X3, hB⟩ := HX.out
  clear HX q1 q2 q5 q3 q4 q6 r1 r2 r5 r3 r4 r6
  refine wp_region_k [14, 15, 16, 17, 18, 19] [.eq (.agg #[.bool (neg (dm (f))), .string (mag (dm (f))), .int .i64 (de (f))]), .eq (.agg #[.bool (neg (1)), .string (mag (1))]), .eq (.int .i64 (p)), .eq (.int .i64 (-p)), .eq (.agg #[.bool (neg (dm (u1))), .string (mag (dm (u1))), .int .i64 (de (u1))]), .eq (.agg #[.bool (neg (dm (z))), .string (mag (dm (z))), .int .i64 (de (z))])] 20 (by kernel_rfl) (by exact fun _ _ _ _ _ h => h) (by kernel_rfl) (by rfl) ?hop ?htail
  case hop =>
    intro A hA
    have hN : A.tmps.size = 20 := by rw [hA]; rfl
    have q5 : A.tmps.getD 5 undef = .pointer (some ⟨g5, 0, none⟩) := by rw [hA]; rfl
    have q1 : A.tmps.getD 1 undef = .int .i64 (p) := by rw [hA]; rfl
    clear hA
    refine ⟨?_, ?_, ?_, ?_, ?_, ?_, trivial⟩
    · refine kok hN fun u W ev ec ef E B hG hf => ?_
      exact k_val _ rfl rfl hG (by simp [go_sem, B 5 rfl rfl q5, (X3.later hG).cel]) rfl
    · refine kok hN fun u W ev ec ef E B hG hf => ?_
      exact k_cl rfl rfl (by simp [go_sem, ec, ef]) (cO.out W) hG (fun _ _ => rfl)
    · refine kok hN fun u W ev ec ef E B hG hf => ?_
      exact k_val _ rfl rfl hG (by simp [go_sem, B 1 rfl rfl q1]) rfl
    · refine kok hN fun u W ev ec ef E B hG hf => ?_
      exact k_val _ rfl rfl hG (by simp [go_sem, E 16 2 rfl rfl (hf 2 rfl), hw]) rfl
    · refine kok hN fun u W ev ec ef E B hG hf => ?_
      exact k_cl rfl rfl (by simp [go_sem, ef, E 15 1 rfl rfl (hf 1 rfl), E 17 3 rfl rfl (hf 3 rfl)]) (cM.out W) hG (fun _ _ => rfl)
    · refine kok hN fun u W ev ec ef E B hG hf => ?_
      exact k_cl rfl rfl (by simp [go_sem, ef, E 14 0 rfl rfl (hf 0 rfl), E 18 4 rfl rfl (hf 4 rfl)]) (cP.out W) hG (fun _ _ => rfl)
  case htail =>
    intro u w' hG hP hD
    have f19 : u 5 = .agg #[.bool (neg (dm (z))), .string (mag (dm (z))), .int .i64 (de (z))] := hP 5 (by decide)
    simp only [putAll, Act.put, List.setIfInBounds_toArray, List.set_cons_zero, List.set_cons_succ, List.length_cons, List.length_nil, Nat.reduceAdd, List.drop_succ_cons, List.drop_zero, f19]
    have hB := Lib.hid (nxt hB hG)
    replace X2 := X2.later hG
    have HX := Lib.hid X2
    obtain ⟨q1, q2, q5, q3, q4, q6⟩ := X2.three
    clear X2 X3 hP hD hG f19
    go_wp2_with fail
    exact bodyPost_ret (v := .agg #[.bool (neg (dm (z))), .string (mag (dm (z))), .int .i64 (de (z))]) (by simp [results, Tryz.results96, go_sem, (HX.out.set3 _ _ _).cel]) rfl ⟨rfl, st3 hB.out (Nat.le_add_right _ 1) _ _ _⟩

theorem rdCeil_any {b : Bool} {s : ByteArray} {e : Int} {x : Dyadic} {L T0 P : Nat} (p : Int) (w : World) (n1 : ND b s e x) (d1 : DB L T0 x) (hLT : 2 * L + T0 + 2 * P ≤ 2000000) (hp1 : -(P : Int) ≤ p) (hp2 : p ≤ P) :
    Calls Tryz.prog 96 #[.agg #[.bool b, .string s, .int .i64 e], .int .i64 p] w fun r w' => r = .returned (.agg #[.bool (neg (dm (x.roundUp p))), .string (mag (dm (x.roundUp p))), .int .i64 (de (x.roundUp p))]) ∧ Below w.heap.size w w' := by
  have cF := Lib.hid (fun W => rdFloor_any p W n1 d1 (by omega) (by omega) (by omega))
  have df := db_floor d1 hp1 hp2
  have dx := db_up (L' := L + P) (T' := L + T0 + P) d1 (by omega) (by omega)
  have cC := Lib.hid (fun W => rdCmp_any W (nd_db df (by omega)) n1 df dx (by omega))
  rw [roundUp_eq]
  by_cases hf : x.roundDown p = x
  · rw [if_pos hf]
    rw [hf] at cF cC
    exact rdCeil_keep s b e p _ x w (by rw [dsgn_eq]; grind) cF cC
  · rw [if_neg hf]
    have d3 : DB (L + P) (L + T0 + P + 1) (dy 1 (-p)) := db_raw (S := 1) (by decide) (by omega) (by omega)
    have d4 := db_up (L' := L + P) (T' := L + T0 + P + 1) df (by omega) (by omega)
    have cM := Lib.hid (fun W => rMake_any (mag 1) (neg 1) (-p) W (by decide) (by omega) (by omega))
    rw [ival_mk] at cM
    exact rdCeil_up s b e p _ _ _ _ w (fun h => hf (by have := dsgn_eq.1 h; grind)) (IntWalk.i64_in _ (by omega)) cF cC (Lib.hid fun W => rWOf_any 1 W (by decide) (by decide)) cM (Lib.hid fun W => rdPlus_any W (nd_db d4 (by omega)) (nd_db d3 (by omega)) d4 d3 (by omega))

end Go.Proofs.YtchfglbkiebfpaaGreatDoor

namespace Go.Proofs.YtchfglbkiebfpaaGreatDoor
open Go.RowKit

theorem undrewN {w w' : World} {k : Nat} (h : Below (w.drewN k).heap.size (w.drewN k) w') : Below w.heap.size w w' := ⟨h.os, h.tape, h.output, h.size, h.block⟩
theorem db_first {L T0 : Nat} {lt : Dyadic → Dyadic → Bool} {f : Nat → Dyadic} (h : ∀ j, DB L T0 (f j)) : ∀ k, DB L T0 (firstD lt f k)
  | 0 => db_zero _ _
  | k + 1 => by
    show DB L T0 (if k = 0 then f 0 else if lt (f k) (firstD lt f k) then f k else firstD lt f k)
    split
    · exact h 0
    · split
      · exact h k
      · exact db_first h k

set_option maxRecDepth 100000 in
set_option maxHeartbeats 1000000 in
theorem rdMin_any (A : Option Addr) (n c : Nat) (bs : Nat → Bool) (ss : Nat → ByteArray) (es : Nat → Int) (xs : Nat → Dyadic) (L0 T0 : Nat) (w : World) (hn : n ≤ 1000000) (hnd : ∀ j, ND (bs j) (ss j) (es j) (xs j)) (hdb : ∀ j, DB L0 T0 (xs j)) (hLT : L0 + T0 ≤ 3000000) (hr : RdN w A n bs ss es) :
    Calls Tryz.prog 98 #[.slice A n c] w fun r w' => r = .returned (.agg #[.bool (neg (dm (firstD minB xs n))), .string (mag (dm (firstD minB xs n))), .int .i64 (de (firstD minB xs n))]) ∧ Below w.heap.size w w' := by
  have HN := Lib.hid hnd
  have HD := Lib.hid hdb
  clear hnd hdb
  go_enter Tryz.func98, Tryz.ntmps98
  have X1 := (Bx.new w 25 #[.bool false, .string ⟨#[]⟩, .int .i64 0]).alloc (.cells #[.bool false, .string ⟨#[]⟩, .int .i64 0] 25)
  have X2 := Bx.at1 w (.cells #[.bool false, .string ⟨#[]⟩, .int .i64 0] 25) 25 #[.bool false, .string ⟨#[]⟩, .int .i64 0]
  have hB := b2 w (.cells #[.bool false, .string ⟨#[]⟩, .int .i64 0] 25) (.cells #[.bool false, .string ⟨#[]⟩, .int .i64 0] 25)
  go_wp2_with fail
  generalize (w.alloc (.cells #[.bool false, .string ⟨#[]⟩, .int .i64 0] 25)).alloc (.cells #[.bool false, .string ⟨#[]⟩, .int .i64 0] 25) = w0 at *
  go_loopw [4] (fun i wr => ∃ k : Nat, k ≤ n ∧ i = .int .i64 (k : Nat) ∧ Bx wr w.heap.size 25 #[.bool false, .string ⟨#[]⟩, .int .i64 0] ∧ Bx wr (w.heap.size + 1) 25 #[.bool (neg (dm (firstD minB xs k))), .string (mag (dm (firstD minB xs k))), .int .i64 (de (firstD minB xs k))] ∧ Below w.heap.size w wr) (fun i _ => n - (intOf i).toNat)
  case atStart => exact ⟨0, Nat.zero_le _, rfl, X1, X2, hB⟩
  case round =>
    obtain ⟨k, hk, rfl, Y1, Y2, hB2⟩ := hrel
    by_cases hlt : k < n
    · obtain ⟨b, off, rfl, hc⟩ := hr (by omega)
      obtain ⟨c1, c2, c3⟩ := hc k hlt
      have g1 := cell_later hB2 c1
      have g2 := cell_later hB2 c2
      have g3 := cell_later hB2 c3
      clear hc hr c1 c2 c3 X1 X2 hB
      have HE := Lib.hid (show w.heap.size ≠ w.heap.size + 1 by omega)
      have cF := rdForm_nd (HN.out k)
      obtain ⟨q1, q2, q5, q3, q4, q6⟩ := Y2.three
      by_cases h0 : k = 0
      · subst h0
        simp only [Nat.zero_mul, Nat.add_zero] at g1 g2 g3
        have e0 : ((0 : Nat) : Int) = 0 := rfl
        rw [e0]
        clear e0
        have HK := Lib.hid (And.intro Y1 (And.intro Y2 hB2))
        clear Y1 Y2
        go_wp2_with fail
        go_quiet (fail)
        go_wp2_with fail
        refine (cF.out _).mono ?_
        rintro e w5 ⟨rfl, hb⟩
        obtain ⟨Y1, Y2, hB2⟩ := HK.out
        have hb' := undrewN hb
        replace Y1 := Y1.later hb'
        replace Y2 := Y2.later hb'
        replace hB2 := nxt hB2 hb'
        clear hb hb' HK q1 q2 q5 q3 q4 q6 g1 g2 g3
        obtain ⟨q1, q2, q5, q3, q4, q6⟩ := Y2.three
        have HK := Lib.hid (And.intro Y1 (And.intro Y2 hB2))
        clear Y1 Y2 hB2
        go_wp2
        obtain ⟨Y1, Y2, hB2⟩ := HK.out
        exact ⟨⟨1, hlt, rfl, Bx.far3 Y1 HE.out _ _ _, Y2.set3 _ _ _, st3 hB2 (Nat.le_add_right _ 1) _ _ _⟩, by simp [intOf]; omega⟩
      · have hT1 : firstD minB xs (k + 1) = if minB (xs k) (firstD minB xs k) then xs k else firstD minB xs k := by
          show (if k = 0 then _ else _) = _
          rw [if_neg h0]
        have hT2 : minB (xs k) (firstD minB xs k) = decide ((dsgn (xs k - firstD minB xs k)) < 0) := rfl
        rw [hT2] at hT1
        clear hT2
        have cC := Lib.hid (fun W => rdCmp_any W (HN.out k) (nd_db (db_first (lt := minB) HD.out k) (by omega)) (HD.out k) (db_first (lt := minB) HD.out k) hLT)
        generalize dsgn (xs k - firstD minB xs k) = z at *
        have HT1 := Lib.hid hT1
        clear hT1
        obtain ⟨I, hI⟩ : ∃ I : Int, I = (k : Int) := ⟨_, rfl⟩
        rw [← hI]
        have HI := Lib.hid hI
        have i1 : I < (n : Int) := by omega
        have i3 : 0 ≤ I := by omega
        have i4 : I.toNat = k := by omega
        have i8 : ¬ I = 0 := by omega
        have i7 : (I == 0) = false := by simpa using i8
        have i9 : I ≤ 1000000 := by omega
        have HK := Lib.hid (And.intro Y1 (And.intro Y2 hB2))
        clear hI Y1 Y2 h0
        go_wp2_with fail
        go_region_held3 (fun w' => w'.cell? ⟨b, off + k * 3, none⟩ = some (.bool (bs k)) ∧ w'.cell? ⟨b, off + k * 3 + 1, none⟩ = some (.string (ss k)) ∧ w'.cell? ⟨b, off + k * 3 + 2, none⟩ = some (.int .i64 (es k)) ∧ w'.cell? ⟨w.heap.size + 1, 0, none⟩ = some (.bool (neg (dm (firstD minB xs k)))) ∧ w'.cell? ⟨w.heap.size + 1, 1, none⟩ = some (.string (mag (dm (firstD minB xs k)))) ∧ w'.cell? ⟨w.heap.size + 1, 2, none⟩ = some (.int .i64 (de (firstD minB xs k)))) (first | exact ⟨g1, g2, g3, q1, q2, q5⟩ | exact ⟨cell_later ha g1, cell_later ha g2, cell_later ha g3, cell_later ha q1, cell_later ha q2, cell_later ha q5⟩)
          (first
            | (go_at_call 99; refine (cC.out wr.drew).mono ?_; rintro e wa ⟨rfl, ha'⟩; have ha := undrew ha'; clear ha'))
        obtain ⟨Y1, Y2, hB2⟩ := HK.out
        replace Y1 := Y1.later ha
        replace Y2 := Y2.later ha
        replace hB2 := nxt hB2 ha
        replace g1 := cell_later ha g1
        replace g2 := cell_later ha g2
        replace g3 := cell_later ha g3
        clear ha HK q1 q2 q5 q3 q4 q6
        have HK := Lib.hid (And.intro Y1 (And.intro Y2 hB2))
        clear Y1 Y2 hB2
        by_cases hz : z < 0
        · rw [decide_eq_true hz] at HT1
          go_wp2_with fail
          refine (cF.out _).mono ?_
          rintro e w5 ⟨rfl, hb⟩
          obtain ⟨Y1, Y2, hB2⟩ := HK.out
          replace Y1 := Y1.later hb
          replace Y2 := Y2.later hb
          replace hB2 := nxt hB2 hb
          clear hb HK g1 g2 g3
          obtain ⟨q1, q2, q5, q3, q4, q6⟩ := Y2.three
          have HK := Lib.hid (And.intro Y1 (And.intro Y2 hB2))
          clear Y1 Y2 hB2
          go_wp2
          obtain ⟨Y1, Y2, hB2⟩ := HK.out
          exact ⟨⟨k + 1, hlt, by rw [HI.out]; go_num, Bx.far3 Y1 HE.out _ _ _, by rw [HT1.out]; exact Y2.set3 _ _ _, st3 hB2 (Nat.le_add_right _ 1) _ _ _⟩, by simp [intOf]; omega⟩
        · rw [decide_eq_false hz] at HT1
          go_wp2
          obtain ⟨Y1, Y2, hB2⟩ := HK.out
          exact ⟨⟨k + 1, hlt, by rw [HI.out]; go_num, Y1, by rw [HT1.out]; exact Y2, hB2⟩, by simp [intOf]; omega⟩
    · obtain rfl : k = n := by omega
      obtain ⟨p1, p2, p5, p3, p4, p6⟩ := Y1.three
      obtain ⟨q1, q2, q5, _, _, _⟩ := Y2.three
      have HY := Lib.hid Y1
      clear Y1 Y2 X1 X2 hB
      go_wp2_with fail
      exact bodyPost_ret (v := .agg #[.bool (neg (dm (firstD minB xs k))), .string (mag (dm (firstD minB xs k))), .int .i64 (de (firstD minB xs k))]) (by simp [results, Tryz.results98, go_sem, (HY.out.set3 _ _ _).cel]) rfl ⟨rfl, st3 hB2 (Nat.le_refl _) _ _ _⟩

set_option maxRecDepth 100000 in
set_option maxHeartbeats 1000000 in
theorem rdMax_any (A : Option Addr) (n c : Nat) (bs : Nat → Bool) (ss : Nat → ByteArray) (es : Nat → Int) (xs : Nat → Dyadic) (L0 T0 : Nat) (w : World) (hn : n ≤ 1000000) (hnd : ∀ j, ND (bs j) (ss j) (es j) (xs j)) (hdb : ∀ j, DB L0 T0 (xs j)) (hLT : L0 + T0 ≤ 3000000) (hr : RdN w A n bs ss es) :
    Calls Tryz.prog 97 #[.slice A n c] w fun r w' => r = .returned (.agg #[.bool (neg (dm (firstD maxB xs n))), .string (mag (dm (firstD maxB xs n))), .int .i64 (de (firstD maxB xs n))]) ∧ Below w.heap.size w w' := by
  have HN := Lib.hid hnd
  have HD := Lib.hid hdb
  clear hnd hdb
  go_enter Tryz.func97, Tryz.ntmps97
  have X1 := (Bx.new w 25 #[.bool false, .string ⟨#[]⟩, .int .i64 0]).alloc (.cells #[.bool false, .string ⟨#[]⟩, .int .i64 0] 25)
  have X2 := Bx.at1 w (.cells #[.bool false, .string ⟨#[]⟩, .int .i64 0] 25) 25 #[.bool false, .string ⟨#[]⟩, .int .i64 0]
  have hB := b2 w (.cells #[.bool false, .string ⟨#[]⟩, .int .i64 0] 25) (.cells #[.bool false, .string ⟨#[]⟩, .int .i64 0] 25)
  go_wp2_with fail
  generalize (w.alloc (.cells #[.bool false, .string ⟨#[]⟩, .int .i64 0] 25)).alloc (.cells #[.bool false, .string ⟨#[]⟩, .int .i64 0] 25) = w0 at *
  go_loopw [4] (fun i wr => ∃ k : Nat, k ≤ n ∧ i = .int .i64 (k : Nat) ∧ Bx wr w.heap.size 25 #[.bool false, .string ⟨#[]⟩, .int .i64 0] ∧ Bx wr (w.heap.size + 1) 25 #[.bool (neg (dm (firstD maxB xs k))), .string (mag (dm (firstD maxB xs k))), .int .i64 (de (firstD maxB xs k))] ∧ Below w.heap.size w wr) (fun i _ => n - (intOf i).toNat)
  case atStart => exact ⟨0, Nat.zero_le _, rfl, X1, X2, hB⟩
  case round =>
    obtain ⟨k, hk, rfl, Y1, Y2, hB2⟩ := hrel
    by_cases hlt : k < n
    · obtain ⟨b, off, rfl, hc⟩ := hr (by omega)
      obtain ⟨c1, c2, c3⟩ := hc k hlt
      have g1 := cell_later hB2 c1
      have g2 := cell_later hB2 c2
      have g3 := cell_later hB2 c3
      clear hc hr c1 c2 c3 X1 X2 hB
      have HE := Lib.hid (show w.heap.size ≠ w.heap.size + 1 by omega)
      have cF := rdForm_nd (HN.out k)
      obtain ⟨q1, q2, q5, q3, q4, q6⟩ := Y2.three
      by_cases h0 : k = 0
      · subst h0
        simp only [Nat.zero_mul, Nat.add_zero] at g1 g2 g3
        have e0 : ((0 : Nat) : Int) = 0 := rfl
        rw [e0]
        clear e0
        have HK := Lib.hid (And.intro Y1 (And.intro Y2 hB2))
        clear Y1 Y2
        go_wp2_with fail
        go_quiet (fail)
        go_wp2_with fail
        refine (cF.out _).mono ?_
        rintro e w5 ⟨rfl, hb⟩
        obtain ⟨Y1, Y2, hB2⟩ := HK.out
        have hb' := undrewN hb
        replace Y1 := Y1.later hb'
        replace Y2 := Y2.later hb'
        replace hB2 := nxt hB2 hb'
        clear hb hb' HK q1 q2 q5 q3 q4 q6 g1 g2 g3
        obtain ⟨q1, q2, q5, q3, q4, q6⟩ := Y2.three
        have HK := Lib.hid (And.intro Y1 (And.intro Y2 hB2))
        clear Y1 Y2 hB2
        go_wp2
        obtain ⟨Y1, Y2, hB2⟩ := HK.out
        exact ⟨⟨1, hlt, rfl, Bx.far3 Y1 HE.out _ _ _, Y2.set3 _ _ _, st3 hB2 (Nat.le_add_right _ 1) _ _ _⟩, by simp [intOf]; omega⟩
      · have hT1 : firstD maxB xs (k + 1) = if maxB (xs k) (firstD maxB xs k) then xs k else firstD maxB xs k := by
          show (if k = 0 then _ else _) = _
          rw [if_neg h0]
        have hT2 : maxB (xs k) (firstD maxB xs k) = decide (0 < (dsgn (xs k - firstD maxB xs k))) := rfl
        rw [hT2] at hT1
        clear hT2
        have cC := Lib.hid (fun W => rdCmp_any W (HN.out k) (nd_db (db_first (lt := maxB) HD.out k) (by omega)) (HD.out k) (db_first (lt := maxB) HD.out k) hLT)
        generalize dsgn (xs k - firstD maxB xs k) = z at *
        have HT1 := Lib.hid hT1
        clear hT1
        obtain ⟨I, hI⟩ : ∃ I : Int, I = (k : Int) := ⟨_, rfl⟩
        rw [← hI]
        have HI := Lib.hid hI
        have i1 : I < (n : Int) := by omega
        have i3 : 0 ≤ I := by omega
        have i4 : I.toNat = k := by omega
        have i8 : ¬ I = 0 := by omega
        have i7 : (I == 0) = false := by simpa using i8
        have i9 : I ≤ 1000000 := by omega
        have HK := Lib.hid (And.intro Y1 (And.intro Y2 hB2))
        clear hI Y1 Y2 h0
        go_wp2_with fail
        go_region_held3 (fun w' => w'.cell? ⟨b, off + k * 3, none⟩ = some (.bool (bs k)) ∧ w'.cell? ⟨b, off + k * 3 + 1, none⟩ = some (.string (ss k)) ∧ w'.cell? ⟨b, off + k * 3 + 2, none⟩ = some (.int .i64 (es k)) ∧ w'.cell? ⟨w.heap.size + 1, 0, none⟩ = some (.bool (neg (dm (firstD maxB xs k)))) ∧ w'.cell? ⟨w.heap.size + 1, 1, none⟩ = some (.string (mag (dm (firstD maxB xs k)))) ∧ w'.cell? ⟨w.heap.size + 1, 2, none⟩ = some (.int .i64 (de (firstD maxB xs k)))) (first | exact ⟨g1, g2, g3, q1, q2, q5⟩ | exact ⟨cell_later ha g1, cell_later ha g2, cell_later ha g3, cell_later ha q1, cell_later ha q2, cell_later ha q5⟩)
          (first
            | (go_at_call 99; refine (cC.out wr.drew).mono ?_; rintro e wa ⟨rfl, ha'⟩; have ha := undrew ha'; clear ha'))
        obtain ⟨Y1, Y2, hB2⟩ := HK.out
        replace Y1 := Y1.later ha
        replace Y2 := Y2.later ha
        replace hB2 := nxt hB2 ha
        replace g1 := cell_later ha g1
        replace g2 := cell_later ha g2
        replace g3 := cell_later ha g3
        clear ha HK q1 q2 q5 q3 q4 q6
        have HK := Lib.hid (And.intro Y1 (And.intro Y2 hB2))
        clear Y1 Y2 hB2
        by_cases hz : 0 < z
        · rw [decide_eq_true hz] at HT1
          go_wp2_with fail
          refine (cF.out _).mono ?_
          rintro e w5 ⟨rfl, hb⟩
          obtain ⟨Y1, Y2, hB2⟩ := HK.out
          replace Y1 := Y1.later hb
          replace Y2 := Y2.later hb
          replace hB2 := nxt hB2 hb
          clear hb HK g1 g2 g3
          obtain ⟨q1, q2, q5, q3, q4, q6⟩ := Y2.three
          have HK := Lib.hid (And.intro Y1 (And.intro Y2 hB2))
          clear Y1 Y2 hB2
          go_wp2
          obtain ⟨Y1, Y2, hB2⟩ := HK.out
          exact ⟨⟨k + 1, hlt, by rw [HI.out]; go_num, Bx.far3 Y1 HE.out _ _ _, by rw [HT1.out]; exact Y2.set3 _ _ _, st3 hB2 (Nat.le_add_right _ 1) _ _ _⟩, by simp [intOf]; omega⟩
        · rw [decide_eq_false hz] at HT1
          go_wp2
          obtain ⟨Y1, Y2, hB2⟩ := HK.out
          exact ⟨⟨k + 1, hlt, by rw [HI.out]; go_num, Y1, by rw [HT1.out]; exact Y2, hB2⟩, by simp [intOf]; omega⟩
    · obtain rfl : k = n := by omega
      obtain ⟨p1, p2, p5, p3, p4, p6⟩ := Y1.three
      obtain ⟨q1, q2, q5, _, _, _⟩ := Y2.three
      have HY := Lib.hid Y1
      clear Y1 Y2 X1 X2 hB
      go_wp2_with fail
      exact bodyPost_ret (v := .agg #[.bool (neg (dm (firstD maxB xs k))), .string (mag (dm (firstD maxB xs k))), .int .i64 (de (firstD maxB xs k))]) (by simp [results, Tryz.results97, go_sem, (HY.out.set3 _ _ _).cel]) rfl ⟨rfl, st3 hB2 (Nat.le_refl _) _ _ _⟩

end Go.Proofs.YtchfglbkiebfpaaGreatDoor

namespace Go.Proofs.YtchfglbkiebfpaaGreatDoor
open Go.RowKit

theorem Bx.six {w : World} {g : Nat} {t : TypeId} {x0 x1 x2 x3 x4 x5 : Value} (h : Bx w g t #[x0, x1, x2, x3, x4, x5]) : w.cell? ⟨g, 0, none⟩ = some x0 ∧ w.cell? ⟨g, 1, none⟩ = some x1 ∧ w.cell? ⟨g, 2, none⟩ = some x2 ∧ w.cell? ⟨g, 3, none⟩ = some x3 ∧ w.cell? ⟨g, 4, none⟩ = some x4 ∧ w.cell? ⟨g, 5, none⟩ = some x5 ∧
    w.frozen? ⟨g, 0, none⟩ = false ∧ w.frozen? ⟨g, 1, none⟩ = false ∧ w.frozen? ⟨g, 2, none⟩ = false ∧ w.frozen? ⟨g, 3, none⟩ = false ∧ w.frozen? ⟨g, 4, none⟩ = false ∧ w.frozen? ⟨g, 5, none⟩ = false :=
  ⟨h.cel 0, h.cel 1, h.cel 2, h.cel 3, h.cel 4, h.cel 5, h.free 0, h.free 1, h.free 2, h.free 3, h.free 4, h.free 5⟩
theorem Bx.set6 {w : World} {g : Nat} {t : TypeId} {x0 x1 x2 x3 x4 x5 : Value} (h : Bx w g t #[x0, x1, x2, x3, x4, x5]) (a b c d e f : Value) : Bx ((((((w.setCell ⟨g, 0, none⟩ a).setCell ⟨g, 1, none⟩ b).setCell ⟨g, 2, none⟩ c).setCell ⟨g, 3, none⟩ d).setCell ⟨g, 4, none⟩ e).setCell ⟨g, 5, none⟩ f) g t #[a, b, c, d, e, f] := (((((h.set 0 a).set 1 b).set 2 c).set 3 d).set 4 e).set 5 f
theorem st6 {B : Nat} {a w : World} (h : Below B a w) {g : Nat} (hg : B ≤ g) (x0 x1 x2 x3 x4 x5 : Value) : Below B a ((((((w.setCell ⟨g, 0, none⟩ x0).setCell ⟨g, 1, none⟩ x1).setCell ⟨g, 2, none⟩ x2).setCell ⟨g, 3, none⟩ x3).setCell ⟨g, 4, none⟩ x4).setCell ⟨g, 5, none⟩ x5) := (((((h.setCell hg x0).setCell hg x1).setCell hg x2).setCell hg x3).setCell hg x4).setCell hg x5
/-- The lesser, the greater one. -/
def dmin (x y : Dyadic) : Dyadic := if y < x then y else x
def dmax (x y : Dyadic) : Dyadic := if x < y then y else x
theorem min2 (x y : Dyadic) : firstD minB (fun j => if j = 0 then x else y) 2 = dmin x y := by
  show (if minB y x = true then y else x) = _
  unfold dmin minB
  by_cases h : y < x
  · rw [if_pos h, if_pos (decide_eq_true (dsgn_lt.2 (by grind)))]
  · rw [if_neg h, if_neg (by rw [decide_eq_true_eq, dsgn_lt]; grind)]
theorem max2 (x y : Dyadic) : firstD maxB (fun j => if j = 0 then x else y) 2 = dmax x y := by
  show (if maxB y x = true then y else x) = _
  unfold dmax maxB
  by_cases h : x < y
  · rw [if_pos h, if_pos (decide_eq_true (dsgn_gt.2 (by grind)))]
  · rw [if_neg h, if_neg (by rw [decide_eq_true_eq, dsgn_gt]; grind)]

set_option maxRecDepth 100000 in
set_option maxHeartbeats 1000000 in
theorem sOf_x (A : Option Addr) (n c : Nat) (x y : Dyadic) (w : World)
    (cL : Hid (∀ W : World, Below w.heap.size w W → Calls Tryz.prog 91 #[.slice A n c] W fun r w' => r = .returned (.agg #[.bool (neg (dm (x))), .string (mag (dm (x))), .int .i64 (de (x))]) ∧ Below W.heap.size W w'))
    (cH : Hid (∀ W : World, Below w.heap.size w W → Calls Tryz.prog 92 #[.slice A n c] W fun r w' => r = .returned (.agg #[.bool (neg (dm (y))), .string (mag (dm (y))), .int .i64 (de (y))]) ∧ Below W.heap.size W w'))
    :
    Calls Tryz.prog 46 #[.slice A n c] w fun r w' => r = .returned (.agg #[.bool (neg (dm (x))), .string (mag (dm (x))), .int .i64 (de (x)), .bool (neg (dm (y))), .string (mag (dm (y))), .int .i64 (de (y))]) ∧ Below w.heap.size w w' := by
  go_enter Tryz.func46, Tryz.ntmps46
  go_upto_region 1 with (fail)
  have X1 := Bx.new w 27 #[.bool false, .string ⟨#[]⟩, .int .i64 0, .bool false, .string ⟨#[]⟩, .int .i64 0]
  have hB := b1 w (.cells #[.bool false, .string ⟨#[]⟩, .int .i64 0, .bool false, .string ⟨#[]⟩, .int .i64 0] 27)
  generalize w.alloc (.cells #[.bool false, .string ⟨#[]⟩, .int .i64 0, .bool false, .string ⟨#[]⟩, .int .i64 0] 27) = w0 at *
  have hl0 := X1.lt
  obtain ⟨p1, p2, p3, p4, p5, p6, p7, p8, p9, p10, p11, p12⟩ := X1.six
  go_wp2_with fail
  refine (cL.out _ hB).mono ?_
  rintro e w1 ⟨rfl, hb⟩
  replace X1 := X1.later hb
  replace hB := nxt hB hb
  clear hb
  clear p1 p2 p3 p4 p5 p6 p7 p8 p9 p10 p11 p12
  obtain ⟨p1, p2, p3, p4, p5, p6, p7, p8, p9, p10, p11, p12⟩ := X1.six
  go_wp2_with fail
  refine (cH.out _ hB).mono ?_
  rintro e w2 ⟨rfl, hb⟩
  replace X1 := X1.later hb
  replace hB := nxt hB hb
  clear hb
  clear p1 p2 p3 p4 p5 p6 p7 p8 p9 p10 p11 p12
  obtain ⟨p1, p2, p3, p4, p5, p6, p7, p8, p9, p10, p11, p12⟩ := X1.six
  go_wp2_with fail
  exact bodyPost_ret (v := .agg #[.bool (neg (dm (x))), .string (mag (dm (x))), .int .i64 (de (x)), .bool (neg (dm (y))), .string (mag (dm (y))), .int .i64 (de (y))]) (by simp [results, Tryz.results46, go_sem, (X1.set6 _ _ _ _ _ _).cel]) rfl ⟨rfl, st6 hB (Nat.le_refl _) _ _ _ _ _ _⟩
theorem sOf_any (A : Option Addr) (n c : Nat) (bs : Nat → Bool) (ss : Nat → ByteArray) (es : Nat → Int) (xs : Nat → Dyadic) (w : World) (hn : n ≤ 1000000) (hnd : ∀ j, ND (bs j) (ss j) (es j) (xs j)) (hr : RdN w A n bs ss es) (hT : TabAt 0 Lib.deBruijn64tab w) :
    Calls Tryz.prog 46 #[.slice A n c] w fun r w' => r = .returned (.agg #[.bool (neg (dm (firstD minB xs n))), .string (mag (dm (firstD minB xs n))), .int .i64 (de (firstD minB xs n)), .bool (neg (dm (firstD maxB xs n))), .string (mag (dm (firstD maxB xs n))), .int .i64 (de (firstD maxB xs n))]) ∧ Below w.heap.size w w' := by
  exact sOf_x A n c _ _ w (Lib.hid fun W hB => dMin_any A n c bs ss es xs W hn hnd (hr.below hB) (tab_keep hT hB)) (Lib.hid fun W hB => dMax_any A n c bs ss es xs W hn hnd (hr.below hB) (tab_keep hT hB))
theorem sOf2 {b c : Bool} {s t : ByteArray} {e f : Int} {x y : Dyadic} {g : Nat} {w : World} (n1 : ND b s e x) (n2 : ND c t f y) (hT : TabAt 0 Lib.deBruijn64tab w) (h : Bx w g 25 #[.bool b, .string s, .int .i64 e, .bool c, .string t, .int .i64 f]) :
    Calls Tryz.prog 46 #[.slice (some ⟨g, 0, none⟩) 2 2] w fun r w' => r = .returned (.agg #[.bool (neg (dm (dmin x y))), .string (mag (dm (dmin x y))), .int .i64 (de (dmin x y)), .bool (neg (dm (dmax x y))), .string (mag (dm (dmax x y))), .int .i64 (de (dmax x y))]) ∧ Below w.heap.size w w' := by
  have h := sOf_any _ 2 2 _ _ _ (fun j => if j = 0 then x else y) w (by decide) (fun j => by by_cases h0 : j = 0 <;> simp only [h0, if_true, if_false] <;> assumption) (rdN2B h) hT
  rwa [min2, max2] at h

set_option maxRecDepth 100000 in
theorem sof_x (s t : ByteArray) (b c : Bool) (e f : Int) (x y : Dyadic) (w : World) (hT : TabAt 0 Lib.deBruijn64tab w)
    (cO : Hid (∀ (g : Nat) (W : World), TabAt 0 Lib.deBruijn64tab W → Bx W g 25 #[.bool b, .string s, .int .i64 e, .bool c, .string t, .int .i64 f] → Calls Tryz.prog 46 #[.slice (some ⟨g, 0, none⟩) 2 2] W fun r w' => r = .returned (.agg #[.bool (neg (dm (x))), .string (mag (dm (x))), .int .i64 (de (x)), .bool (neg (dm (y))), .string (mag (dm (y))), .int .i64 (de (y))]) ∧ Below W.heap.size W w'))
    :
    Calls Tryz.prog 72 #[.agg #[.bool b, .string s, .int .i64 e, .bool c, .string t, .int .i64 f]] w fun r w' => r = .returned (.agg #[.bool (neg (dm (x))), .string (mag (dm (x))), .int .i64 (de (x)), .bool (neg (dm (y))), .string (mag (dm (y))), .int .i64 (de (y))]) ∧ Below w.heap.size w w' :=
  RetAt.at <| ret_sk ttOk mixed (fun a w => Tryz.call72 a w) Tryz.func72 Tryz.ntmps72 Tryz.results72 _ rfl _ [.o 1 5 (.ret (.val (vS (x) (y))))] (fun W hW hR => (fun (hT : Tab0 W) => ai (rg1 hT Tryz.call46 fun W g h hx => cO.out g W h hx) <| hR) (tab_keep hT hW)) fun W => by kernel_rfl

theorem sof_any {b c : Bool} {s t : ByteArray} {e f : Int} {x y : Dyadic} (w : World) (n1 : ND b s e x) (n2 : ND c t f y) (hT : TabAt 0 Lib.deBruijn64tab w) :
    Calls Tryz.prog 72 #[.agg #[.bool b, .string s, .int .i64 e, .bool c, .string t, .int .i64 f]] w fun r w' => r = .returned (.agg #[.bool (neg (dm (dmin x y))), .string (mag (dm (dmin x y))), .int .i64 (de (dmin x y)), .bool (neg (dm (dmax x y))), .string (mag (dm (dmax x y))), .int .i64 (de (dmax x y))]) ∧ Below w.heap.size w w' := by
  exact sof_x s t b c e f _ _ w hT (Lib.hid fun _ W h hx => sOf2 n1 n2 h hx)

set_option maxRecDepth 100000 in
theorem sForm_x (s t : ByteArray) (b c : Bool) (e f : Int) (x y : Dyadic) (w : World) (hT : TabAt 0 Lib.deBruijn64tab w)
    (cO : Hid (∀ W : World, TabAt 0 Lib.deBruijn64tab W → Calls Tryz.prog 72 #[.agg #[.bool b, .string s, .int .i64 e, .bool c, .string t, .int .i64 f]] W fun r w' => r = .returned (.agg #[.bool (neg (dm (x))), .string (mag (dm (x))), .int .i64 (de (x)), .bool (neg (dm (y))), .string (mag (dm (y))), .int .i64 (de (y))]) ∧ Below W.heap.size W w'))
    :
    Calls Tryz.prog 40 #[.agg #[.bool b, .string s, .int .i64 e, .bool c, .string t, .int .i64 f]] w fun r w' => r = .returned (.agg #[.bool (neg (dm (x))), .string (mag (dm (x))), .int .i64 (de (x)), .bool (neg (dm (y))), .string (mag (dm (y))), .int .i64 (de (y))]) ∧ Below w.heap.size w w' :=
  RetAt.at <| ret_sk ttOk mixed (fun a w => Tryz.call40 a w) Tryz.func40 Tryz.ntmps40 Tryz.results40 _ rfl _ [.o 1 1 (.ret (.val (vS (x) (y))))] (fun W hW hR => (fun (hT : Tab0 W) => ai (rt hT Tryz.call72 fun W h => cO.out W h) <| hR) (tab_keep hT hW)) fun W => by kernel_rfl

theorem sForm_any {b c : Bool} {s t : ByteArray} {e f : Int} {x y : Dyadic} (w : World) (n1 : ND b s e x) (n2 : ND c t f y) (hT : TabAt 0 Lib.deBruijn64tab w) :
    Calls Tryz.prog 40 #[.agg #[.bool b, .string s, .int .i64 e, .bool c, .string t, .int .i64 f]] w fun r w' => r = .returned (.agg #[.bool (neg (dm (dmin x y))), .string (mag (dm (dmin x y))), .int .i64 (de (dmin x y)), .bool (neg (dm (dmax x y))), .string (mag (dm (dmax x y))), .int .i64 (de (dmax x y))]) ∧ Below w.heap.size w w' := by
  exact sForm_x s t b c e f _ _ w hT (Lib.hid fun W h => sof_any W n1 n2 h)

set_option maxRecDepth 100000 in
theorem sMid_x (s t : ByteArray) (b c : Bool) (e f : Int) (x z : Dyadic) (w : World) (hT : TabAt 0 Lib.deBruijn64tab w)
    (cO : Hid (∀ (g : Nat) (W : World), TabAt 0 Lib.deBruijn64tab W → Bx W g 25 #[.bool b, .string s, .int .i64 e, .bool c, .string t, .int .i64 f] → Calls Tryz.prog 38 #[.slice (some ⟨g, 0, none⟩) 2 2] W fun r w' => r = .returned (.agg #[.bool (neg (dm (x))), .string (mag (dm (x))), .int .i64 (de (x))]) ∧ Below W.heap.size W w'))
    (cS : Hid (∀ W : World, TabAt 0 Lib.deBruijn64tab W → Calls Tryz.prog 49 #[.agg #[.bool (neg (dm (x))), .string (mag (dm (x))), .int .i64 (de (x))], .int .i64 (-1)] W fun r w' => r = .returned (.agg #[.bool (neg (dm (z))), .string (mag (dm (z))), .int .i64 (de (z))]) ∧ Below W.heap.size W w'))
    :
    Calls Tryz.prog 44 #[.agg #[.bool b, .string s, .int .i64 e, .bool c, .string t, .int .i64 f]] w fun r w' => r = .returned (.agg #[.bool (neg (dm (z))), .string (mag (dm (z))), .int .i64 (de (z))]) ∧ Below w.heap.size w w' :=
  RetAt.at <| ret_sk ttOk mixed (fun a w => Tryz.call44 a w) Tryz.func44 Tryz.ntmps44 Tryz.results44 _ rfl _ [.o 1 5 (.ret (.val (vN (x)))), .o 1 6 (.ret (.val (vN (z))))] (fun W hW hR => (fun (hT : Tab0 W) => ai (rg1 hT Tryz.call38 fun W g h hx => cO.out g W h hx) <| ai (rt hT Tryz.call49 fun W h => cS.out W h) <| hR) (tab_keep hT hW)) fun W => by kernel_rfl

end Go.Proofs.YtchfglbkiebfpaaGreatDoor

namespace Go.Proofs.YtchfglbkiebfpaaGreatDoor
open Go.RowKit

/-- Is it between them, whichever is the lesser one? -/
def hasB (x y a : Dyadic) : Bool := decide (dsgn (dmin x y - a) ≤ 0) && decide (dsgn (a - dmax x y) ≤ 0)
theorem db_dmin {L T0 : Nat} {x y : Dyadic} (h1 : DB L T0 x) (h2 : DB L T0 y) : DB L T0 (dmin x y) := by unfold dmin; split <;> assumption
theorem db_dmax {L T0 : Nat} {x y : Dyadic} (h1 : DB L T0 x) (h2 : DB L T0 y) : DB L T0 (dmax x y) := by unfold dmax; split <;> assumption

set_option maxRecDepth 100000 in
theorem sHas_no (s t : ByteArray) (b c : Bool) (e f : Int) (u : ByteArray) (d : Bool) (h p : Int) (x y : Dyadic) (w : World) (hp : ¬ p ≤ 0) (hT : TabAt 0 Lib.deBruijn64tab w)
    (cO : Hid (∀ W : World, TabAt 0 Lib.deBruijn64tab W → Calls Tryz.prog 72 #[.agg #[.bool b, .string s, .int .i64 e, .bool c, .string t, .int .i64 f]] W fun r w' => r = .returned (.agg #[.bool (neg (dm (x))), .string (mag (dm (x))), .int .i64 (de (x)), .bool (neg (dm (y))), .string (mag (dm (y))), .int .i64 (de (y))]) ∧ Below W.heap.size W w'))
    (c1 : Hid (∀ W : World, TabAt 0 Lib.deBruijn64tab W → Calls Tryz.prog 51 #[.agg #[.bool (neg (dm (x))), .string (mag (dm (x))), .int .i64 (de (x))], .agg #[.bool d, .string u, .int .i64 h]] W fun r w' => r = .returned (.int .i64 p) ∧ Below W.heap.size W w'))
    :
    Calls Tryz.prog 37 #[.agg #[.bool b, .string s, .int .i64 e, .bool c, .string t, .int .i64 f], .agg #[.bool d, .string u, .int .i64 h]] w fun r w' => r = .returned (.bool false) ∧ Below w.heap.size w w' :=
  RetAt.at <| ret_sk ttOk mixed (fun a w => Tryz.call37 a w) Tryz.func37 Tryz.ntmps37 Tryz.results37 _ rfl _ [.o 1 1 (.ret (.val (vS (x) (y)))), .o 2 4 (.ret (.val (.int .i64 p))), .g 2 7 false, .g 2 8 false, .g 2 9 false, .g 2 10 false, .g 2 11 false, .g 2 12 false, .o 2 13 (.pk false)] (fun W hW hR => (fun (hT : Tab0 W) => ai (rt hT Tryz.call72 fun W h => cO.out W h) <| ai (rt hT Tryz.call51 fun W h => c1.out W h) <| ai (le_n hp) <| ai (le_n hp) <| ai (le_n hp) <| ai (le_n hp) <| ai (le_n hp) <| ai (le_n hp) <| ai (le_n hp) <| hR) (tab_keep hT hW)) fun W => by kernel_rfl

set_option maxRecDepth 100000 in
theorem sHas_yes (s t : ByteArray) (b c : Bool) (e f : Int) (u : ByteArray) (d : Bool) (h p q : Int) (x y : Dyadic) (w : World) (hp : p ≤ 0) (hT : TabAt 0 Lib.deBruijn64tab w)
    (cO : Hid (∀ W : World, TabAt 0 Lib.deBruijn64tab W → Calls Tryz.prog 72 #[.agg #[.bool b, .string s, .int .i64 e, .bool c, .string t, .int .i64 f]] W fun r w' => r = .returned (.agg #[.bool (neg (dm (x))), .string (mag (dm (x))), .int .i64 (de (x)), .bool (neg (dm (y))), .string (mag (dm (y))), .int .i64 (de (y))]) ∧ Below W.heap.size W w'))
    (c1 : Hid (∀ W : World, TabAt 0 Lib.deBruijn64tab W → Calls Tryz.prog 51 #[.agg #[.bool (neg (dm (x))), .string (mag (dm (x))), .int .i64 (de (x))], .agg #[.bool d, .string u, .int .i64 h]] W fun r w' => r = .returned (.int .i64 p) ∧ Below W.heap.size W w'))
    (c2 : Hid (∀ W : World, TabAt 0 Lib.deBruijn64tab W → Calls Tryz.prog 51 #[.agg #[.bool d, .string u, .int .i64 h], .agg #[.bool (neg (dm (y))), .string (mag (dm (y))), .int .i64 (de (y))]] W fun r w' => r = .returned (.int .i64 q) ∧ Below W.heap.size W w'))
    :
    Calls Tryz.prog 37 #[.agg #[.bool b, .string s, .int .i64 e, .bool c, .string t, .int .i64 f], .agg #[.bool d, .string u, .int .i64 h]] w fun r w' => r = .returned (.bool (decide (q ≤ 0))) ∧ Below w.heap.size w w' :=
  RetAt.at <| ret_sk ttOk mixed (fun a w => Tryz.call37 a w) Tryz.func37 Tryz.ntmps37 Tryz.results37 _ rfl _ [.o 1 1 (.ret (.val (vS (x) (y)))), .o 2 4 (.ret (.val (.int .i64 p))), .g 2 7 true, .g 2 8 true, .g 2 9 true, .g 2 10 true, .g 2 11 true, .o 2 11 (.ret (.val (.int .i64 q))), .g 2 12 true, .o 2 13 (.pk true)] (fun W hW hR => (fun (hT : Tab0 W) => ai (rt hT Tryz.call72 fun W h => cO.out W h) <| ai (rt hT Tryz.call51 fun W h => c1.out W h) <| ai (le_y hp) <| ai (le_y hp) <| ai (le_y hp) <| ai (le_y hp) <| ai (le_y hp) <| ai (rt hT Tryz.call51 fun W h => c2.out W h) <| ai (le_y hp) <| ai (le_y hp) <| hR) (tab_keep hT hW)) fun W => by kernel_rfl

theorem sHas_any {b c d : Bool} {s t u : ByteArray} {e f h : Int} {x y a : Dyadic} {L T0 : Nat} (w : World) (n1 : ND b s e x) (n2 : ND c t f y) (n3 : ND d u h a) (d1 : DB L T0 x) (d2 : DB L T0 y) (hLT : L + T0 ≤ 4000000) (hT : TabAt 0 Lib.deBruijn64tab w) :
    Calls Tryz.prog 37 #[.agg #[.bool b, .string s, .int .i64 e, .bool c, .string t, .int .i64 f], .agg #[.bool d, .string u, .int .i64 h]] w fun r w' => r = .returned (.bool (hasB x y a)) ∧ Below w.heap.size w w' := by
  have cO := Lib.hid (fun W h => sof_any W n1 n2 h)
  have c1 := Lib.hid (fun W h => dCmp_any W (nd_db (db_dmin d1 d2) hLT) n3 h)
  have c2 := Lib.hid (fun W h => dCmp_any W n3 (nd_db (db_dmax d1 d2) hLT) h)
  unfold hasB
  by_cases hp : dsgn (dmin x y - a) ≤ 0
  · rw [decide_eq_true hp, Bool.true_and]
    exact sHas_yes s t b c e f u d h _ _ _ _ w hp hT cO c1 c2
  · rw [decide_eq_false hp, Bool.false_and]
    exact sHas_no s t b c e f u d h _ _ _ w hp hT cO c1

set_option maxRecDepth 100000 in
set_option maxHeartbeats 1000000 in
theorem sWithin_no (s t : ByteArray) (b c : Bool) (e f : Int) (s' t' : ByteArray) (b' c' : Bool) (e' f' : Int) (w : World) (hT : TabAt 0 Lib.deBruijn64tab w)
    (c1 : Hid (∀ W : World, TabAt 0 Lib.deBruijn64tab W → Calls Tryz.prog 37 #[.agg #[.bool b', .string s', .int .i64 e', .bool c', .string t', .int .i64 f'], .agg #[.bool b, .string s, .int .i64 e]] W fun r w' => r = .returned (.bool false) ∧ Below W.heap.size W w'))
    :
    Calls Tryz.prog 33 #[.agg #[.bool b, .string s, .int .i64 e, .bool c, .string t, .int .i64 f], .agg #[.bool b', .string s', .int .i64 e', .bool c', .string t', .int .i64 f']] w fun r w' => r = .returned (.bool false) ∧ Below w.heap.size w w' := by
  have HT := Lib.hid hT
  clear hT
  go_enter Tryz.func33, Tryz.ntmps33
  go_upto_region 1 with (fail)
  have X1 := (Bx.new w 27 #[.bool b, .string s, .int .i64 e, .bool c, .string t, .int .i64 f]).alloc (.cells #[.bool b', .string s', .int .i64 e', .bool c', .string t', .int .i64 f'] 27)
  have X2 := Bx.at1 w (.cells #[.bool b, .string s, .int .i64 e, .bool c, .string t, .int .i64 f] 27) 27 #[.bool b', .string s', .int .i64 e', .bool c', .string t', .int .i64 f']
  have hB := b2 w (.cells #[.bool b, .string s, .int .i64 e, .bool c, .string t, .int .i64 f] 27) (.cells #[.bool b', .string s', .int .i64 e', .bool c', .string t', .int .i64 f'] 27)
  generalize (w.alloc (.cells #[.bool b, .string s, .int .i64 e, .bool c, .string t, .int .i64 f] 27)).alloc (.cells #[.bool b', .string s', .int .i64 e', .bool c', .string t', .int .i64 f'] 27) = w0 at *
  have hl0 := X1.lt
  have hl1 := X2.lt
  obtain ⟨p1, p2, p3, p4, p5, p6, p7, p8, p9, p10, p11, p12⟩ := X1.six
  obtain ⟨q1, q2, q3, q4, q5, q6, q7, q8, q9, q10, q11, q12⟩ := X2.six
  go_wp2_with fail
  refine (c1.out _ (tab_keep HT.out hB)).mono ?_
  rintro e w1 ⟨rfl, hb⟩
  replace X1 := X1.later hb
  replace X2 := X2.later hb
  replace hB := nxt hB hb
  clear hb
  clear p1 p2 p3 p4 p5 p6 p7 p8 p9 p10 p11 p12 q1 q2 q3 q4 q5 q6 q7 q8 q9 q10 q11 q12
  obtain ⟨p1, p2, p3, p4, p5, p6, p7, p8, p9, p10, p11, p12⟩ := X1.six
  obtain ⟨q1, q2, q3, q4, q5, q6, q7, q8, q9, q10, q11, q12⟩ := X2.six
  go_wp2
  go_ret
  exact ⟨rfl, hB⟩
set_option maxRecDepth 100000 in
theorem sWithin_yes (s t : ByteArray) (b c : Bool) (e f : Int) (s' t' : ByteArray) (b' c' B : Bool) (e' f' : Int) (w : World) (hT : TabAt 0 Lib.deBruijn64tab w)
    (c1 : Hid (∀ W : World, TabAt 0 Lib.deBruijn64tab W → Calls Tryz.prog 37 #[.agg #[.bool b', .string s', .int .i64 e', .bool c', .string t', .int .i64 f'], .agg #[.bool b, .string s, .int .i64 e]] W fun r w' => r = .returned (.bool true) ∧ Below W.heap.size W w'))
    (c2 : Hid (∀ W : World, TabAt 0 Lib.deBruijn64tab W → Calls Tryz.prog 37 #[.agg #[.bool b', .string s', .int .i64 e', .bool c', .string t', .int .i64 f'], .agg #[.bool c, .string t, .int .i64 f]] W fun r w' => r = .returned (.bool B) ∧ Below W.heap.size W w'))
    :
    Calls Tryz.prog 33 #[.agg #[.bool b, .string s, .int .i64 e, .bool c, .string t, .int .i64 f], .agg #[.bool b', .string s', .int .i64 e', .bool c', .string t', .int .i64 f']] w fun r w' => r = .returned (.bool B) ∧ Below w.heap.size w w' :=
  RetAt.at <| ret_sk ttOk mixed (fun a w => Tryz.call33 a w) Tryz.func33 Tryz.ntmps33 Tryz.results33 _ rfl _ [.o 1 3 (.ret (.val (.bool true))), .o 1 8 (.ret (.val (.bool B)))] (fun W hW hR => (fun (hT : Tab0 W) => ai (rt hT Tryz.call37 fun W h => c1.out W h) <| ai (rt hT Tryz.call37 fun W h => c2.out W h) <| hR) (tab_keep hT hW)) fun W => by kernel_rfl

theorem sWithin_any {b c b' c' : Bool} {s t s' t' : ByteArray} {e f e' f' : Int} {x y x' y' : Dyadic} {L T0 : Nat} (w : World) (n1 : ND b s e x) (n2 : ND c t f y) (m1 : ND b' s' e' x') (m2 : ND c' t' f' y') (d1 : DB L T0 x') (d2 : DB L T0 y') (hLT : L + T0 ≤ 4000000) (hT : TabAt 0 Lib.deBruijn64tab w) :
    Calls Tryz.prog 33 #[.agg #[.bool b, .string s, .int .i64 e, .bool c, .string t, .int .i64 f], .agg #[.bool b', .string s', .int .i64 e', .bool c', .string t', .int .i64 f']] w fun r w' => r = .returned (.bool (hasB x' y' x && hasB x' y' y)) ∧ Below w.heap.size w w' := by
  have c1 := Lib.hid (fun W h => sHas_any W m1 m2 n1 d1 d2 hLT h)
  have c2 := Lib.hid (fun W h => sHas_any W m1 m2 n2 d1 d2 hLT h)
  cases hB : hasB x' y' x
  · rw [hB] at c1
    exact sWithin_no s t b c e f s' t' b' c' e' f' w hT c1
  · rw [hB] at c1
    exact sWithin_yes s t b c e f s' t' b' c' _ e' f' w hT c1 c2

set_option maxRecDepth 100000 in
theorem sWidth_x (s t : ByteArray) (b c : Bool) (e f : Int) (x y z : Dyadic) (w : World) (hT : TabAt 0 Lib.deBruijn64tab w)
    (cO : Hid (∀ W : World, TabAt 0 Lib.deBruijn64tab W → Calls Tryz.prog 72 #[.agg #[.bool b, .string s, .int .i64 e, .bool c, .string t, .int .i64 f]] W fun r w' => r = .returned (.agg #[.bool (neg (dm (x))), .string (mag (dm (x))), .int .i64 (de (x)), .bool (neg (dm (y))), .string (mag (dm (y))), .int .i64 (de (y))]) ∧ Below W.heap.size W w'))
    (cS : Hid (∀ W : World, TabAt 0 Lib.deBruijn64tab W → Calls Tryz.prog 48 #[.agg #[.bool (neg (dm (y))), .string (mag (dm (y))), .int .i64 (de (y))], .agg #[.bool (neg (dm (x))), .string (mag (dm (x))), .int .i64 (de (x))]] W fun r w' => r = .returned (.agg #[.bool (neg (dm (z))), .string (mag (dm (z))), .int .i64 (de (z))]) ∧ Below W.heap.size W w'))
    :
    Calls Tryz.prog 42 #[.agg #[.bool b, .string s, .int .i64 e, .bool c, .string t, .int .i64 f]] w fun r w' => r = .returned (.agg #[.bool (neg (dm (z))), .string (mag (dm (z))), .int .i64 (de (z))]) ∧ Below w.heap.size w w' :=
  RetAt.at <| ret_sk ttOk mixed (fun a w => Tryz.call42 a w) Tryz.func42 Tryz.ntmps42 Tryz.results42 _ rfl _ [.o 1 1 (.ret (.val (vS (x) (y)))), .o 2 6 (.ret (.val (vN (z))))] (fun W hW hR => (fun (hT : Tab0 W) => ai (rt hT Tryz.call72 fun W h => cO.out W h) <| ai (rt hT Tryz.call48 fun W h => cS.out W h) <| hR) (tab_keep hT hW)) fun W => by kernel_rfl

theorem sWidth_any {b c : Bool} {s t : ByteArray} {e f : Int} {x y : Dyadic} {L T0 : Nat} (w : World) (n1 : ND b s e x) (n2 : ND c t f y) (d1 : DB L T0 x) (d2 : DB L T0 y) (hLT : L + T0 ≤ 3000000) (hT : TabAt 0 Lib.deBruijn64tab w) :
    Calls Tryz.prog 42 #[.agg #[.bool b, .string s, .int .i64 e, .bool c, .string t, .int .i64 f]] w fun r w' => r = .returned (.agg #[.bool (neg (dm (dmax x y - dmin x y))), .string (mag (dm (dmax x y - dmin x y))), .int .i64 (de (dmax x y - dmin x y))]) ∧ Below w.heap.size w w' := by
  exact sWidth_x s t b c e f _ _ _ w hT (Lib.hid fun W h => sof_any W n1 n2 h) (Lib.hid fun W h => dSub_any W (nd_db (db_dmax d1 d2) (by omega)) (nd_db (db_dmin d1 d2) (by omega)) (db_dmax d1 d2) (db_dmin d1 d2) hLT h)

theorem sMid_any {b c : Bool} {s t : ByteArray} {e f : Int} {x y : Dyadic} {L T0 : Nat} (w : World) (n1 : ND b s e x) (n2 : ND c t f y) (d1 : DB L T0 x) (d2 : DB L T0 y) (hLT : L + T0 ≤ 3000000) (hT : TabAt 0 Lib.deBruijn64tab w) :
    Calls Tryz.prog 44 #[.agg #[.bool b, .string s, .int .i64 e, .bool c, .string t, .int .i64 f]] w fun r w' => r = .returned (.agg #[.bool (neg (dm (dy (dm (x + y)) (de (x + y) + -1)))), .string (mag (dm (dy (dm (x + y)) (de (x + y) + -1)))), .int .i64 (de (dy (dm (x + y)) (de (x + y) + -1)))]) ∧ Below w.heap.size w w' := by
  have dd := db_add d1 d2
  have n := nd_db dd (by omega)
  have cc := Lib.hid (fun W h => dShift_any (mag (dm (x + y))) (neg (dm (x + y))) (de (x + y)) (-1) W (Nat.le_trans n.size (by decide)) (by have := n.lo; omega) (by have := n.hi; omega) h)
  rw [ival_mk] at cc
  exact sMid_x s t b c e f _ _ w hT (Lib.hid fun _ W h hx => dAdd2N n1 n2 d1 d2 hLT h hx) cc

end Go.Proofs.YtchfglbkiebfpaaGreatDoor

namespace Go.Proofs.YtchfglbkiebfpaaGreatDoor
open Go.RowKit

set_option maxRecDepth 100000 in
theorem sEachNeg (x y x1 y1 x2 y2 : Dyadic) (w : World) (hT : TabAt 0 Lib.deBruijn64tab w)
    (c1 : Hid (∀ W : World, TabAt 0 Lib.deBruijn64tab W → Calls Tryz.prog 63 #[.agg #[.bool (neg (dm (x))), .string (mag (dm (x))), .int .i64 (de (x))]] W fun r w' => r = .returned (.agg #[.bool (neg (dm (x1))), .string (mag (dm (x1))), .int .i64 (de (x1))]) ∧ Below W.heap.size W w'))
    (c2 : Hid (∀ W : World, TabAt 0 Lib.deBruijn64tab W → Calls Tryz.prog 63 #[.agg #[.bool (neg (dm (y))), .string (mag (dm (y))), .int .i64 (de (y))]] W fun r w' => r = .returned (.agg #[.bool (neg (dm (y1))), .string (mag (dm (y1))), .int .i64 (de (y1))]) ∧ Below W.heap.size W w'))
    (cO : Hid (∀ (g : Nat) (W : World), TabAt 0 Lib.deBruijn64tab W → Bx W g 25 #[.bool (neg (dm (x1))), .string (mag (dm (x1))), .int .i64 (de (x1)), .bool (neg (dm (y1))), .string (mag (dm (y1))), .int .i64 (de (y1))] → Calls Tryz.prog 46 #[.slice (some ⟨g, 0, none⟩) 2 2] W fun r w' => r = .returned (.agg #[.bool (neg (dm (x2))), .string (mag (dm (x2))), .int .i64 (de (x2)), .bool (neg (dm (y2))), .string (mag (dm (y2))), .int .i64 (de (y2))]) ∧ Below W.heap.size W w'))
    :
    Calls Tryz.prog 74 #[.agg #[.bool (neg (dm (x))), .string (mag (dm (x))), .int .i64 (de (x)), .bool (neg (dm (y))), .string (mag (dm (y))), .int .i64 (de (y))], .func (.func 63) #[] #[]] w fun r w' => r = .returned (.agg #[.bool (neg (dm (x2))), .string (mag (dm (x2))), .int .i64 (de (x2)), .bool (neg (dm (y2))), .string (mag (dm (y2))), .int .i64 (de (y2))]) ∧ Below w.heap.size w w' :=
  RetAt.at <| ret_sk ttOk mixed (fun a w => Tryz.call74 a w) Tryz.func74 Tryz.ntmps74 Tryz.results74 _ rfl _ [.reg 12 [], .o 1 4 (.ret (.val (vN (x1)))), .o 1 9 (.ret (.val (vN (y1)))), .o 1 11 (.ret (.val (vS (x2) (y2))))] (fun W hW hR => (fun (hT : Tab0 W) => ai (rt hT Tryz.call63 fun W h => c1.out W h) <| ai (rt hT Tryz.call63 fun W h => c2.out W h) <| ai (rg1 hT Tryz.call46 fun W g h hx => cO.out g W h hx) <| hR) (tab_keep hT hW)) fun W => by kernel_rfl

set_option maxRecDepth 100000 in
theorem sNeg_x (s t : ByteArray) (b c : Bool) (e f : Int) (x y x2 y2 : Dyadic) (w : World) (hT : TabAt 0 Lib.deBruijn64tab w)
    (cO : Hid (∀ W : World, TabAt 0 Lib.deBruijn64tab W → Calls Tryz.prog 72 #[.agg #[.bool b, .string s, .int .i64 e, .bool c, .string t, .int .i64 f]] W fun r w' => r = .returned (.agg #[.bool (neg (dm (x))), .string (mag (dm (x))), .int .i64 (de (x)), .bool (neg (dm (y))), .string (mag (dm (y))), .int .i64 (de (y))]) ∧ Below W.heap.size W w'))
    (cE : Hid (∀ W : World, TabAt 0 Lib.deBruijn64tab W → Calls Tryz.prog 74 #[.agg #[.bool (neg (dm (x))), .string (mag (dm (x))), .int .i64 (de (x)), .bool (neg (dm (y))), .string (mag (dm (y))), .int .i64 (de (y))], .func (.func 63) #[] #[]] W fun r w' => r = .returned (.agg #[.bool (neg (dm (x2))), .string (mag (dm (x2))), .int .i64 (de (x2)), .bool (neg (dm (y2))), .string (mag (dm (y2))), .int .i64 (de (y2))]) ∧ Below W.heap.size W w'))
    :
    Calls Tryz.prog 18 #[.agg #[.bool b, .string s, .int .i64 e, .bool c, .string t, .int .i64 f]] w fun r w' => r = .returned (.agg #[.bool (neg (dm (x2))), .string (mag (dm (x2))), .int .i64 (de (x2)), .bool (neg (dm (y2))), .string (mag (dm (y2))), .int .i64 (de (y2))]) ∧ Below w.heap.size w w' :=
  RetAt.at <| ret_sk ttOk mixed (fun a w => Tryz.call18 a w) Tryz.func18 Tryz.ntmps18 Tryz.results18 _ rfl _ [.o 1 1 (.ret (.val (vS (x) (y)))), .o 1 2 (.ret (.val (vS (x2) (y2))))] (fun W hW hR => (fun (hT : Tab0 W) => ai (rt hT Tryz.call72 fun W h => cO.out W h) <| ai (rt hT Tryz.call74 fun W h => cE.out W h) <| hR) (tab_keep hT hW)) fun W => by kernel_rfl

theorem dNeg_vn {L T0 : Nat} {x : Dyadic} (d1 : DB L T0 x) (hLT : L + T0 ≤ 4000000) :
    Hid (∀ W : World, TabAt 0 Lib.deBruijn64tab W → Calls Tryz.prog 63 #[.agg #[.bool (neg (dm (x))), .string (mag (dm (x))), .int .i64 (de (x))]] W fun r w' => r = .returned (.agg #[.bool (neg (dm (-x))), .string (mag (dm (-x))), .int .i64 (de (-x))]) ∧ Below W.heap.size W w') := by
  have n := nd_db d1 hLT
  have c := Lib.hid (fun W h => dNeg_any (mag (dm x)) (neg (dm x)) (de x) W (Nat.le_trans n.size (by decide)) (by have := n.lo; omega) (by have := n.hi; omega) h)
  rw [ival_mk, dy_dm] at c
  exact c
theorem dmin_neg (x y : Dyadic) : dmin (-dmin x y) (-dmax x y) = -dmax x y := by unfold dmin dmax; grind
theorem dmax_neg (x y : Dyadic) : dmax (-dmin x y) (-dmax x y) = -dmin x y := by unfold dmin dmax; grind

theorem sNeg_any {b c : Bool} {s t : ByteArray} {e f : Int} {x y : Dyadic} {L T0 : Nat} (w : World) (n1 : ND b s e x) (n2 : ND c t f y) (d1 : DB L T0 x) (d2 : DB L T0 y) (hLT : L + T0 ≤ 3000000) (hT : TabAt 0 Lib.deBruijn64tab w) :
    Calls Tryz.prog 18 #[.agg #[.bool b, .string s, .int .i64 e, .bool c, .string t, .int .i64 f]] w fun r w' => r = .returned (.agg #[.bool (neg (dm (-dmax x y))), .string (mag (dm (-dmax x y))), .int .i64 (de (-dmax x y)), .bool (neg (dm (-dmin x y))), .string (mag (dm (-dmin x y))), .int .i64 (de (-dmin x y))]) ∧ Below w.heap.size w w' := by
  have m1 := db_dmin d1 d2
  have m2 := db_dmax d1 d2
  have cO := Lib.hid (fun g W h hx => sOf2 (g := g) (w := W) (nd_db (db_neg m1) (by omega)) (nd_db (db_neg m2) (by omega)) h hx)
  rw [dmin_neg, dmax_neg] at cO
  exact sNeg_x s t b c e f _ _ _ _ w hT (Lib.hid fun W h => sof_any W n1 n2 h) (Lib.hid fun W h => sEachNeg _ _ _ _ _ _ W h (dNeg_vn m1 (by omega)) (dNeg_vn m2 (by omega)) cO)

set_option maxRecDepth 100000 in
theorem sMul1_x (s t : ByteArray) (b c : Bool) (e f : Int) (z : Dyadic) (w : World) (hT : TabAt 0 Lib.deBruijn64tab w)
    (cO : Hid (∀ (g : Nat) (W : World), TabAt 0 Lib.deBruijn64tab W → Bx W g 25 #[.bool b, .string s, .int .i64 e, .bool c, .string t, .int .i64 f] → Calls Tryz.prog 39 #[.slice (some ⟨g, 0, none⟩) 2 2] W fun r w' => r = .returned (.agg #[.bool (neg (dm (z))), .string (mag (dm (z))), .int .i64 (de (z))]) ∧ Below W.heap.size W w'))
    :
    Calls Tryz.prog 77 #[.agg #[.bool b, .string s, .int .i64 e], .agg #[.bool c, .string t, .int .i64 f]] w fun r w' => r = .returned (.agg #[.bool (neg (dm (z))), .string (mag (dm (z))), .int .i64 (de (z))]) ∧ Below w.heap.size w w' :=
  RetAt.at <| ret_sk ttOk mixed (fun a w => Tryz.call77 a w) Tryz.func77 Tryz.ntmps77 Tryz.results77 _ rfl _ [.o 1 3 (.ret (.val (vN (z))))] (fun W hW hR => (fun (hT : Tab0 W) => ai (rg1 hT Tryz.call39 fun W g h hx => cO.out g W h hx) <| hR) (tab_keep hT hW)) fun W => by kernel_rfl

theorem dMul2N {b c : Bool} {s t : ByteArray} {e f : Int} {x y : Dyadic} {L T0 : Nat} {g : Nat} {w : World} (n1 : ND b s e x) (n2 : ND c t f y) (d1 : DB L T0 x) (d2 : DB L T0 y) (hLT : L + T0 ≤ 1500000) (hT : TabAt 0 Lib.deBruijn64tab w) (h : Bx w g 25 #[.bool b, .string s, .int .i64 e, .bool c, .string t, .int .i64 f]) :
    Calls Tryz.prog 39 #[.slice (some ⟨g, 0, none⟩) 2 2] w fun r w' => r = .returned (.agg #[.bool (neg (dm (x * y))), .string (mag (dm (x * y))), .int .i64 (de (x * y))]) ∧ Below w.heap.size w w' := by
  have h := dMul_any _ 2 2 _ _ _ (fun j => if j = 0 then x else y) L T0 w (by decide) (fun j => by by_cases h0 : j = 0 <;> simp only [h0, if_true, if_false] <;> assumption) (fun j => by by_cases h0 : j = 0 <;> simp only [h0, if_true, if_false] <;> assumption) (by omega) (rdN2B h) hT
  have e1 : prodD (fun j => if j = 0 then x else y) 2 = x * y := by
    show (1 * x) * y = _
    rw [Dyadic.one_mul]
  rwa [e1] at h
theorem sMul1_any {b c : Bool} {s t : ByteArray} {e f : Int} {x y : Dyadic} {L T0 : Nat} (w : World) (n1 : ND b s e x) (n2 : ND c t f y) (d1 : DB L T0 x) (d2 : DB L T0 y) (hLT : L + T0 ≤ 1500000) (hT : TabAt 0 Lib.deBruijn64tab w) :
    Calls Tryz.prog 77 #[.agg #[.bool b, .string s, .int .i64 e], .agg #[.bool c, .string t, .int .i64 f]] w fun r w' => r = .returned (.agg #[.bool (neg (dm (x * y))), .string (mag (dm (x * y))), .int .i64 (de (x * y))]) ∧ Below w.heap.size w w' := by
  exact sMul1_x s t b c e f _ w hT (Lib.hid fun _ W h hx => dMul2N n1 n2 d1 d2 hLT h hx)

end Go.Proofs.YtchfglbkiebfpaaGreatDoor

namespace Go.Proofs.YtchfglbkiebfpaaGreatDoor
open Go.RowKit

set_option maxRecDepth 100000 in
theorem sFourMul (s t s' t' : ByteArray) (b c b' c' : Bool) (e f e' f' : Int) (z1 z2 z3 z4 : Dyadic) (w : World) (hT : TabAt 0 Lib.deBruijn64tab w)
    (c1 : Hid (∀ W : World, TabAt 0 Lib.deBruijn64tab W → Calls Tryz.prog 77 #[.agg #[.bool b, .string s, .int .i64 e], .agg #[.bool b', .string s', .int .i64 e']] W fun r w' => r = .returned (.agg #[.bool (neg (dm (z1))), .string (mag (dm (z1))), .int .i64 (de (z1))]) ∧ Below W.heap.size W w'))
    (c2 : Hid (∀ W : World, TabAt 0 Lib.deBruijn64tab W → Calls Tryz.prog 77 #[.agg #[.bool b, .string s, .int .i64 e], .agg #[.bool c', .string t', .int .i64 f']] W fun r w' => r = .returned (.agg #[.bool (neg (dm (z2))), .string (mag (dm (z2))), .int .i64 (de (z2))]) ∧ Below W.heap.size W w'))
    (c3 : Hid (∀ W : World, TabAt 0 Lib.deBruijn64tab W → Calls Tryz.prog 77 #[.agg #[.bool c, .string t, .int .i64 f], .agg #[.bool b', .string s', .int .i64 e']] W fun r w' => r = .returned (.agg #[.bool (neg (dm (z3))), .string (mag (dm (z3))), .int .i64 (de (z3))]) ∧ Below W.heap.size W w'))
    (c4 : Hid (∀ W : World, TabAt 0 Lib.deBruijn64tab W → Calls Tryz.prog 77 #[.agg #[.bool c, .string t, .int .i64 f], .agg #[.bool c', .string t', .int .i64 f']] W fun r w' => r = .returned (.agg #[.bool (neg (dm (z4))), .string (mag (dm (z4))), .int .i64 (de (z4))]) ∧ Below W.heap.size W w'))
    :
    Calls Tryz.prog 76 #[.agg #[.bool b, .string s, .int .i64 e, .bool c, .string t, .int .i64 f], .agg #[.bool b', .string s', .int .i64 e', .bool c', .string t', .int .i64 f'], .func (.func 77) #[] #[]] w fun r w' => r = .returned (.agg #[.bool (neg (dm (z1))), .string (mag (dm (z1))), .int .i64 (de (z1)), .bool (neg (dm (z2))), .string (mag (dm (z2))), .int .i64 (de (z2)), .bool (neg (dm (z3))), .string (mag (dm (z3))), .int .i64 (de (z3)), .bool (neg (dm (z4))), .string (mag (dm (z4))), .int .i64 (de (z4))]) ∧ Below w.heap.size w w' :=
  RetAt.at <| ret_sk ttOk mixed (fun a w => Tryz.call76 a w) Tryz.func76 Tryz.ntmps76 Tryz.results76 _ rfl _ [.reg 25 [], .o 1 5 (.ret (.val (vN (z1)))), .o 1 11 (.ret (.val (vN (z2)))), .o 1 17 (.ret (.val (vN (z3)))), .o 1 23 (.ret (.val (vN (z4))))] (fun W hW hR => (fun (hT : Tab0 W) => ai (rt hT Tryz.call77 fun W h => c1.out W h) <| ai (rt hT Tryz.call77 fun W h => c2.out W h) <| ai (rt hT Tryz.call77 fun W h => c3.out W h) <| ai (rt hT Tryz.call77 fun W h => c4.out W h) <| hR) (tab_keep hT hW)) fun W => by kernel_rfl

set_option maxRecDepth 100000 in
theorem sMul_x (s t s' t' : ByteArray) (b c b' c' : Bool) (e f e' f' : Int) (z1 z2 z3 z4 x2 y2 : Dyadic) (w : World) (hT : TabAt 0 Lib.deBruijn64tab w)
    (cF : Hid (∀ W : World, TabAt 0 Lib.deBruijn64tab W → Calls Tryz.prog 76 #[.agg #[.bool b, .string s, .int .i64 e, .bool c, .string t, .int .i64 f], .agg #[.bool b', .string s', .int .i64 e', .bool c', .string t', .int .i64 f'], .func (.func 77) #[] #[]] W fun r w' => r = .returned (.agg #[.bool (neg (dm (z1))), .string (mag (dm (z1))), .int .i64 (de (z1)), .bool (neg (dm (z2))), .string (mag (dm (z2))), .int .i64 (de (z2)), .bool (neg (dm (z3))), .string (mag (dm (z3))), .int .i64 (de (z3)), .bool (neg (dm (z4))), .string (mag (dm (z4))), .int .i64 (de (z4))]) ∧ Below W.heap.size W w'))
    (cO : Hid (∀ (g : Nat) (W : World), TabAt 0 Lib.deBruijn64tab W → Bx W g 91 #[.bool (neg (dm (z1))), .string (mag (dm (z1))), .int .i64 (de (z1)), .bool (neg (dm (z2))), .string (mag (dm (z2))), .int .i64 (de (z2)), .bool (neg (dm (z3))), .string (mag (dm (z3))), .int .i64 (de (z3)), .bool (neg (dm (z4))), .string (mag (dm (z4))), .int .i64 (de (z4))] → Calls Tryz.prog 46 #[.slice (some ⟨g, 0, none⟩) 4 4] W fun r w' => r = .returned (.agg #[.bool (neg (dm (x2))), .string (mag (dm (x2))), .int .i64 (de (x2)), .bool (neg (dm (y2))), .string (mag (dm (y2))), .int .i64 (de (y2))]) ∧ Below W.heap.size W w'))
    :
    Calls Tryz.prog 20 #[.agg #[.bool b, .string s, .int .i64 e, .bool c, .string t, .int .i64 f], .agg #[.bool b', .string s', .int .i64 e', .bool c', .string t', .int .i64 f']] w fun r w' => r = .returned (.agg #[.bool (neg (dm (x2))), .string (mag (dm (x2))), .int .i64 (de (x2)), .bool (neg (dm (y2))), .string (mag (dm (y2))), .int .i64 (de (y2))]) ∧ Below w.heap.size w w' :=
  RetAt.at <| ret_sk ttOk mixed (fun a w => Tryz.call20 a w) Tryz.func20 Tryz.ntmps20 Tryz.results20 _ rfl _ [.o 1 2 (.ret (.agg [.val (.bool (neg (dm (z1)))), .val (.string (mag (dm (z1)))), .val (.int .i64 (de (z1))), .val (.bool (neg (dm (z2)))), .val (.string (mag (dm (z2)))), .val (.int .i64 (de (z2))), .val (.bool (neg (dm (z3)))), .val (.string (mag (dm (z3)))), .val (.int .i64 (de (z3))), .val (.bool (neg (dm (z4)))), .val (.string (mag (dm (z4)))), .val (.int .i64 (de (z4)))])), .o 2 1 (.ret (.val (vS (x2) (y2))))] (fun W hW hR => (fun (hT : Tab0 W) => ai (rt hT Tryz.call76 fun W h => cF.out W h) <| ai (rg1 hT Tryz.call46 fun W g h hx => cO.out g W h hx) <| hR) (tab_keep hT hW)) fun W => by kernel_rfl

end Go.Proofs.YtchfglbkiebfpaaGreatDoor

namespace Go.Proofs.YtchfglbkiebfpaaGreatDoor
open Go.RowKit

theorem first_min (f : Nat → Dyadic) {k : Nat} (h : k ≠ 0) : firstD minB f (k + 1) = dmin (firstD minB f k) (f k) := by
  show (if k = 0 then _ else if minB (f k) (firstD minB f k) = true then f k else firstD minB f k) = _
  rw [if_neg h]
  unfold dmin
  generalize firstD minB f k = z
  unfold minB
  by_cases h1 : f k < z
  · rw [if_pos h1, if_pos (decide_eq_true (dsgn_lt.2 (by grind)))]
  · rw [if_neg h1, if_neg (by rw [decide_eq_true_eq, dsgn_lt]; grind)]
theorem first_max (f : Nat → Dyadic) {k : Nat} (h : k ≠ 0) : firstD maxB f (k + 1) = dmax (firstD maxB f k) (f k) := by
  show (if k = 0 then _ else if maxB (f k) (firstD maxB f k) = true then f k else firstD maxB f k) = _
  rw [if_neg h]
  unfold dmax
  generalize firstD maxB f k = z
  unfold maxB
  by_cases h1 : z < f k
  · rw [if_pos h1, if_pos (decide_eq_true (dsgn_gt.2 (by grind)))]
  · rw [if_neg h1, if_neg (by rw [decide_eq_true_eq, dsgn_gt]; grind)]
def four4 (z1 z2 z3 z4 : Dyadic) (j : Nat) : Dyadic := if j = 0 then z1 else if j = 1 then z2 else if j = 2 then z3 else z4
def dmin4 (z1 z2 z3 z4 : Dyadic) : Dyadic := dmin (dmin (dmin z1 z2) z3) z4
def dmax4 (z1 z2 z3 z4 : Dyadic) : Dyadic := dmax (dmax (dmax z1 z2) z3) z4
theorem min4 (z1 z2 z3 z4 : Dyadic) : firstD minB (four4 z1 z2 z3 z4) 4 = dmin4 z1 z2 z3 z4 := by
  rw [first_min _ (k := 3) (by decide), first_min _ (k := 2) (by decide), first_min _ (k := 1) (by decide)]; rfl
theorem max4 (z1 z2 z3 z4 : Dyadic) : firstD maxB (four4 z1 z2 z3 z4) 4 = dmax4 z1 z2 z3 z4 := by
  rw [first_max _ (k := 3) (by decide), first_max _ (k := 2) (by decide), first_max _ (k := 1) (by decide)]; rfl

theorem rdN4B {w : World} {g : Nat} {t : TypeId} {z1 z2 z3 z4 : Dyadic} (h : Bx w g t #[.bool (neg (dm (z1))), .string (mag (dm (z1))), .int .i64 (de (z1)), .bool (neg (dm (z2))), .string (mag (dm (z2))), .int .i64 (de (z2)), .bool (neg (dm (z3))), .string (mag (dm (z3))), .int .i64 (de (z3)), .bool (neg (dm (z4))), .string (mag (dm (z4))), .int .i64 (de (z4))]) : RdN w (some ⟨g, 0, none⟩) 4 (fun j => neg (dm (four4 z1 z2 z3 z4 j))) (fun j => mag (dm (four4 z1 z2 z3 z4 j))) (fun j => de (four4 z1 z2 z3 z4 j)) := fun _ =>
  ⟨g, 0, rfl, fun j hj => by
    have : j = 0 ∨ j = 1 ∨ j = 2 ∨ j = 3 := by omega
    rcases this with rfl | rfl | rfl | rfl
    · exact ⟨h.cel 0, h.cel 1, h.cel 2⟩
    · exact ⟨h.cel 3, h.cel 4, h.cel 5⟩
    · exact ⟨h.cel 6, h.cel 7, h.cel 8⟩
    · exact ⟨h.cel 9, h.cel 10, h.cel 11⟩⟩
theorem db_four {L T0 : Nat} {z1 z2 z3 z4 : Dyadic} (h1 : DB L T0 z1) (h2 : DB L T0 z2) (h3 : DB L T0 z3) (h4 : DB L T0 z4) (j : Nat) : DB L T0 (four4 z1 z2 z3 z4 j) := by
  unfold four4; split
  · exact h1
  · split
    · exact h2
    · split
      · exact h3
      · exact h4
theorem sOf4 {z1 z2 z3 z4 : Dyadic} {L T0 : Nat} {g : Nat} {t : TypeId} {w : World} (d1 : DB L T0 z1) (d2 : DB L T0 z2) (d3 : DB L T0 z3) (d4 : DB L T0 z4) (hLT : L + T0 ≤ 4000000) (hT : TabAt 0 Lib.deBruijn64tab w) (h : Bx w g t #[.bool (neg (dm (z1))), .string (mag (dm (z1))), .int .i64 (de (z1)), .bool (neg (dm (z2))), .string (mag (dm (z2))), .int .i64 (de (z2)), .bool (neg (dm (z3))), .string (mag (dm (z3))), .int .i64 (de (z3)), .bool (neg (dm (z4))), .string (mag (dm (z4))), .int .i64 (de (z4))]) :
    Calls Tryz.prog 46 #[.slice (some ⟨g, 0, none⟩) 4 4] w fun r w' => r = .returned (.agg #[.bool (neg (dm (dmin4 z1 z2 z3 z4))), .string (mag (dm (dmin4 z1 z2 z3 z4))), .int .i64 (de (dmin4 z1 z2 z3 z4)), .bool (neg (dm (dmax4 z1 z2 z3 z4))), .string (mag (dm (dmax4 z1 z2 z3 z4))), .int .i64 (de (dmax4 z1 z2 z3 z4))]) ∧ Below w.heap.size w w' := by
  have h := sOf_any _ 4 4 _ _ _ (four4 z1 z2 z3 z4) w (by decide) (fun j => nd_db (db_four d1 d2 d3 d4 j) hLT) (rdN4B h) hT
  rwa [min4, max4] at h
theorem sMul_any {b c b' c' : Bool} {s t s' t' : ByteArray} {e f e' f' : Int} {x y x' y' : Dyadic} {L T0 : Nat} (w : World) (n1 : ND b s e x) (n2 : ND c t f y) (m1 : ND b' s' e' x') (m2 : ND c' t' f' y') (d1 : DB L T0 x) (d2 : DB L T0 y) (k1 : DB L T0 x') (k2 : DB L T0 y') (hLT : L + T0 ≤ 1500000) (hT : TabAt 0 Lib.deBruijn64tab w) :
    Calls Tryz.prog 20 #[.agg #[.bool b, .string s, .int .i64 e, .bool c, .string t, .int .i64 f], .agg #[.bool b', .string s', .int .i64 e', .bool c', .string t', .int .i64 f']] w fun r w' => r = .returned (.agg #[.bool (neg (dm (dmin4 (x * x') (x * y') (y * x') (y * y')))), .string (mag (dm (dmin4 (x * x') (x * y') (y * x') (y * y')))), .int .i64 (de (dmin4 (x * x') (x * y') (y * x') (y * y'))), .bool (neg (dm (dmax4 (x * x') (x * y') (y * x') (y * y')))), .string (mag (dm (dmax4 (x * x') (x * y') (y * x') (y * y')))), .int .i64 (de (dmax4 (x * x') (x * y') (y * x') (y * y')))]) ∧ Below w.heap.size w w' := by
  have z1 := db_mul d1 k1
  have z2 := db_mul d1 k2
  have z3 := db_mul d2 k1
  have z4 := db_mul d2 k2
  exact sMul_x s t s' t' b c b' c' e f e' f' _ _ _ _ _ _ w hT
    (Lib.hid fun W h => sFourMul s t s' t' b c b' c' e f e' f' _ _ _ _ W h (Lib.hid fun W h => sMul1_any W n1 m1 d1 k1 hLT h) (Lib.hid fun W h => sMul1_any W n1 m2 d1 k2 hLT h) (Lib.hid fun W h => sMul1_any W n2 m1 d2 k1 hLT h) (Lib.hid fun W h => sMul1_any W n2 m2 d2 k2 hLT h))
    (Lib.hid fun _ W h hx => sOf4 z1 z2 z3 z4 (by omega) h hx)

set_option maxRecDepth 100000 in
theorem sOut_x (s t : ByteArray) (b c : Bool) (e f : Int) (p : Int) (x y x1 y1 : Dyadic) (w : World) (hT : TabAt 0 Lib.deBruijn64tab w)
    (cO : Hid (∀ W : World, TabAt 0 Lib.deBruijn64tab W → Calls Tryz.prog 72 #[.agg #[.bool b, .string s, .int .i64 e, .bool c, .string t, .int .i64 f]] W fun r w' => r = .returned (.agg #[.bool (neg (dm (x))), .string (mag (dm (x))), .int .i64 (de (x)), .bool (neg (dm (y))), .string (mag (dm (y))), .int .i64 (de (y))]) ∧ Below W.heap.size W w'))
    (cF : Hid (∀ W : World, TabAt 0 Lib.deBruijn64tab W → Calls Tryz.prog 93 #[.agg #[.bool (neg (dm (x))), .string (mag (dm (x))), .int .i64 (de (x))], .int .i64 p] W fun r w' => r = .returned (.agg #[.bool (neg (dm (x1))), .string (mag (dm (x1))), .int .i64 (de (x1))]) ∧ Below W.heap.size W w'))
    (cC : Hid (∀ W : World, TabAt 0 Lib.deBruijn64tab W → Calls Tryz.prog 94 #[.agg #[.bool (neg (dm (y))), .string (mag (dm (y))), .int .i64 (de (y))], .int .i64 p] W fun r w' => r = .returned (.agg #[.bool (neg (dm (y1))), .string (mag (dm (y1))), .int .i64 (de (y1))]) ∧ Below W.heap.size W w'))
    :
    Calls Tryz.prog 28 #[.agg #[.bool b, .string s, .int .i64 e, .bool c, .string t, .int .i64 f], .int .i64 p] w fun r w' => r = .returned (.agg #[.bool (neg (dm (x1))), .string (mag (dm (x1))), .int .i64 (de (x1)), .bool (neg (dm (y1))), .string (mag (dm (y1))), .int .i64 (de (y1))]) ∧ Below w.heap.size w w' :=
  RetAt.at <| ret_sk ttOk mixed (fun a w => Tryz.call28 a w) Tryz.func28 Tryz.ntmps28 Tryz.results28 _ rfl _ [.o 1 1 (.ret (.val (vS (x) (y)))), .reg 11 [], .o 2 4 (.ret (.val (vN (x1)))), .o 2 9 (.ret (.val (vN (y1))))] (fun W hW hR => (fun (hT : Tab0 W) => ai (rt hT Tryz.call72 fun W h => cO.out W h) <| ai (rt hT Tryz.call93 fun W h => cF.out W h) <| ai (rt hT Tryz.call94 fun W h => cC.out W h) <| hR) (tab_keep hT hW)) fun W => by kernel_rfl

theorem sOut_any {b c : Bool} {s t : ByteArray} {e f : Int} {x y : Dyadic} {L T0 : Nat} (p : Int) (w : World) (n1 : ND b s e x) (n2 : ND c t f y) (d1 : DB L T0 x) (d2 : DB L T0 y) (hLT : L + T0 ≤ 4000000) (hp1 : -1000000000 ≤ p) (hp2 : p ≤ 1000000000) (hT : TabAt 0 Lib.deBruijn64tab w) :
    Calls Tryz.prog 28 #[.agg #[.bool b, .string s, .int .i64 e, .bool c, .string t, .int .i64 f], .int .i64 p] w fun r w' => r = .returned (.agg #[.bool (neg (dm ((dmin x y).roundDown p))), .string (mag (dm ((dmin x y).roundDown p))), .int .i64 (de ((dmin x y).roundDown p)), .bool (neg (dm ((dmax x y).roundUp p))), .string (mag (dm ((dmax x y).roundUp p))), .int .i64 (de ((dmax x y).roundUp p))]) ∧ Below w.heap.size w w' := by
  exact sOut_x s t b c e f p _ _ _ _ w hT (Lib.hid fun W h => sof_any W n1 n2 h) (Lib.hid fun W h => dFloor_any p W (nd_db (db_dmin d1 d2) hLT) hp1 hp2 h) (Lib.hid fun W h => dCeil_any p W (nd_db (db_dmax d1 d2) hLT) (db_dmax d1 d2) hLT hp1 hp2 h)

end Go.Proofs.YtchfglbkiebfpaaGreatDoor

namespace Go.Proofs.YtchfglbkiebfpaaGreatDoor
open Go.RowKit

set_option maxRecDepth 100000 in
set_option maxHeartbeats 1000000 in
theorem sBelow_up (x y z : Dyadic) (p n n0 g q r0 m1 : Int) (w : World) (hw1 : IntKind.i64.wrap (de x - de y) = n0) (hw2 : IntKind.i64.wrap (n0 + p) = n) (hw3 : IntKind.i64.wrap (-p) = -p) (hn : 0 ≤ n) (hg : 0 ≤ g) (hT : TabAt 0 Lib.deBruijn64tab w)
    (cH : Hid (∀ W : World, TabAt 0 Lib.deBruijn64tab W → Calls Tryz.prog 122 #[.agg #[.bool (neg (dm (x))), .string (mag (dm (x)))], .int .i64 n] W fun r w' => r = .returned (.agg #[.bool (neg (m1)), .string (mag (m1))]) ∧ Below W.heap.size W w'))
    (cS : Hid (∀ W : World, Calls Tryz.prog 106 #[.agg #[.bool (neg (dm (y))), .string (mag (dm (y)))]] W fun r w' => r = .returned (.int .i64 g) ∧ Below W.heap.size W w'))
    (cD : Hid (∀ W : World, Calls Tryz.prog 123 #[.agg #[.bool (neg (m1)), .string (mag (m1))], .agg #[.bool (neg (dm (y))), .string (mag (dm (y)))]] W fun r w' => r = .returned (.tuple #[.agg #[.bool (neg (q)), .string (mag (q))], .agg #[.bool (neg (r0)), .string (mag (r0))], .bool true]) ∧ Below W.heap.size W w'))
    (cM : Hid (∀ W : World, TabAt 0 Lib.deBruijn64tab W → Calls Tryz.prog 101 #[.agg #[.bool (neg (q)), .string (mag (q))], .int .i64 (-p)] W fun r w' => r = .returned (.agg #[.bool (neg (dm (z))), .string (mag (dm (z))), .int .i64 (de (z))]) ∧ Below W.heap.size W w'))
    :
    Calls Tryz.prog 80 #[.agg #[.bool (neg (dm (x))), .string (mag (dm (x))), .int .i64 (de (x))], .agg #[.bool (neg (dm (y))), .string (mag (dm (y))), .int .i64 (de (y))], .int .i64 p] w fun r w' => r = .returned (.agg #[.bool (neg (dm (z))), .string (mag (dm (z))), .int .i64 (de (z))]) ∧ Below w.heap.size w w' := by
  have HT := Lib.hid hT
  clear hT
  go_enter Tryz.func80, Tryz.ntmps80
  go_upto_region 1 with (fail)
  have X1 := ((Bx.new w 25 #[.bool (neg (dm (x))), .string (mag (dm (x))), .int .i64 (de (x))]).alloc (.cells #[.bool (neg (dm (y))), .string (mag (dm (y))), .int .i64 (de (y))] 25)).alloc (.cells #[.bool false, .string ⟨#[]⟩, .int .i64 0] 25)
  have X2 := (Bx.at1 w (.cells #[.bool (neg (dm (x))), .string (mag (dm (x))), .int .i64 (de (x))] 25) 25 #[.bool (neg (dm (y))), .string (mag (dm (y))), .int .i64 (de (y))]).alloc (.cells #[.bool false, .string ⟨#[]⟩, .int .i64 0] 25)
  have X3 := Bx.at2 w (.cells #[.bool (neg (dm (x))), .string (mag (dm (x))), .int .i64 (de (x))] 25) (.cells #[.bool (neg (dm (y))), .string (mag (dm (y))), .int .i64 (de (y))] 25) 25 #[.bool false, .string ⟨#[]⟩, .int .i64 0]
  have hB := b3 w (.cells #[.bool (neg (dm (x))), .string (mag (dm (x))), .int .i64 (de (x))] 25) (.cells #[.bool (neg (dm (y))), .string (mag (dm (y))), .int .i64 (de (y))] 25) (.cells #[.bool false, .string ⟨#[]⟩, .int .i64 0] 25)
  generalize ((w.alloc (.cells #[.bool (neg (dm (x))), .string (mag (dm (x))), .int .i64 (de (x))] 25)).alloc (.cells #[.bool (neg (dm (y))), .string (mag (dm (y))), .int .i64 (de (y))] 25)).alloc (.cells #[.bool false, .string ⟨#[]⟩, .int .i64 0] 25) = w0 at *
  have hl0 := X1.lt
  have hl1 := X2.lt
  have hl2 := X3.lt
  obtain ⟨p1, p2, p5, p3, p4, p6⟩ := X1.three
  obtain ⟨q1, q2, q5, q3, q4, q6⟩ := X2.three
  have HK := Lib.hid (And.intro X1 (And.intro X2 (And.intro X3 hB)))
  clear X1 X2 X3 hB
  go_upto_region 2 with (fail)
  obtain ⟨X1, X2, X3, hB⟩ := HK.out
  have hl3 := X3.lt
  go_cut [8, 9] (fun s8 s9 wx => ∃ g8 g9 : Nat, s8 = .pointer (some ⟨g8, 0, none⟩) ∧ s9 = .pointer (some ⟨g9, 0, none⟩) ∧ g8 ≠ g9 ∧ w.heap.size + 2 < g8 ∧ w.heap.size + 2 < g9 ∧ Bx wx g8 23 #[.bool (neg (dm (x))), .string (mag (dm (x)))] ∧ Bx wx g9 23 #[.bool (neg (dm (y))), .string (mag (dm (y)))] ∧ Bx wx (w.heap.size + 2) 25 #[.bool false, .string ⟨#[]⟩, .int .i64 0] ∧ Below w.heap.size w wx)
  case first =>
    go_region
    all_goals
      go_wp2_with fail
      go_meet
      first
        | exact ⟨_, _, rfl, rfl, by omega, by omega, by omega, (Bx.new w0 _ _).alloc _, Bx.at1 w0 _ _ _, (X3.alloc _).alloc _, (nxtA (nxtA hB _) _).drew⟩
        | exact ⟨_, _, rfl, rfl, by omega, by omega, by omega, Bx.at1 w0 _ _ _, (Bx.new w0 _ _).alloc _, (X3.alloc _).alloc _, (nxtA (nxtA hB _) _).drew⟩
  case rest =>
    clear HK p1 p2 p5 p3 p4 p6 q1 q2 q5 q3 q4 q6 X1 X2 X3 hB hl3
    obtain ⟨g8, g9, rfl, rfl, hne, n8', n9', Z8, Z9, Z3, hB⟩ := hcut
    have n8 : w.heap.size + 2 ≠ g8 := Nat.ne_of_lt n8'
    have n9 : w.heap.size + 2 ≠ g9 := Nat.ne_of_lt n9'
    have h8 : w.heap.size ≤ g8 := by omega
    have h9 : w.heap.size ≤ g9 := by omega
    have HE := Lib.hid (And.intro hne (And.intro n8 (And.intro n9 (And.intro h8 h9))))
    clear hne n8' n9' n8 n9 h8 h9
    obtain ⟨p1, p2, p3, p4⟩ := Z8.two
    obtain ⟨q1, q2, q3, q4⟩ := Z9.two
    go_wp2_with fail
    refine (cH.out _ (tab_keep HT.out hB)).mono ?_
    rintro e w3 ⟨rfl, hb⟩
    replace Z8 := Z8.later hb
    replace Z9 := Z9.later hb
    replace Z3 := Z3.later hb
    replace hB := nxt hB hb
    clear hb
    clear p1 p2 p3 p4 q1 q2 q3 q4
    obtain ⟨hne, n8, n9, h8, h9⟩ := HE.out
    obtain ⟨v1, v2, v3, v4⟩ := Z8.two
    replace Z8 := Z8.set2 (.bool (neg (m1))) (.string (mag (m1)))
    replace Z9 := Bx.far2 (i := 0) (j := 1) (Z9) (Ne.symm hne) (.bool (neg (m1))) (.string (mag (m1)))
    replace Z3 := Bx.far2 (i := 0) (j := 1) (Z3) n8 (.bool (neg (m1))) (.string (mag (m1)))
    replace hB := st2 hB h8 (.bool (neg (m1))) (.string (mag (m1)))
    obtain ⟨p1, p2, p3, p4⟩ := Z8.two
    obtain ⟨q1, q2, q3, q4⟩ := Z9.two
    have HK := Lib.hid (And.intro Z8 (And.intro Z9 (And.intro Z3 hB)))
    clear Z8 Z9 Z3 hB
    clear hne n8 n9 h8 h9
    go_wp2_with fail
    obtain ⟨Z8, Z9, Z3, hB⟩ := HK.out
    clear HK
    clear p1 p2 p3 p4 q1 q2 q3 q4
    clear v1 v2 v3 v4
    generalize (w3.setCell ⟨g8, 0, none⟩ (.bool (neg (m1)))).setCell ⟨g8, 1, none⟩ (.string (mag (m1))) = w4 at *
    refine (cS.out _).mono ?_
    rintro e w5 ⟨rfl, hb⟩
    replace Z8 := Z8.later hb
    replace Z9 := Z9.later hb
    replace Z3 := Z3.later hb
    replace hB := nxt hB hb
    clear hb
    obtain ⟨p1, p2, p3, p4⟩ := Z8.two
    obtain ⟨q1, q2, q3, q4⟩ := Z9.two
    clear p3 p4 q3 q4
    go_wp2_with fail
    clear p1 p2 q1 q2
    refine (cD.out _).mono ?_
    rintro e w9 ⟨rfl, hb⟩
    replace Z3 := Z3.later hb
    replace hB := nxt hB hb
    clear hb Z8 Z9
    have X10 := (Bx.new w9 23 #[.bool (neg (q)), .string (mag (q))]).alloc (.cells #[.bool (neg (r0)), .string (mag (r0))] 23)
    replace Z3 := (Z3.alloc (.cells #[.bool (neg (q)), .string (mag (q))] 23)).alloc (.cells #[.bool (neg (r0)), .string (mag (r0))] 23)
    replace hB := nxtA (nxtA hB (.cells #[.bool (neg (q)), .string (mag (q))] 23)) (.cells #[.bool (neg (r0)), .string (mag (r0))] 23)
    obtain ⟨p1, p2, _, _⟩ := X10.two
    clear X10
    go_wp2_with fail
    refine (cM.out _ (tab_keep HT.out hB)).mono ?_
    rintro e w10 ⟨rfl, hb⟩
    replace Z3 := Z3.later hb
    replace hB := nxt hB hb
    clear hb p1 p2
    obtain ⟨t1, t2, t5, t3, t4, t6⟩ := Z3.three
    go_wp2_with fail
    exact bodyPost_ret (v := .agg #[.bool (neg (dm (z))), .string (mag (dm (z))), .int .i64 (de (z))]) (by simp [results, Tryz.results80, go_sem, (Z3.set3 _ _ _).cel]) rfl ⟨rfl, st3 hB (Nat.le_add_right _ 2) _ _ _⟩

set_option maxRecDepth 100000 in
set_option maxHeartbeats 1000000 in
theorem sBelow_upn (x y z : Dyadic) (p n n0 g q r0 m1 m2 d2 : Int) (w : World) (hw1 : IntKind.i64.wrap (de x - de y) = n0) (hw2 : IntKind.i64.wrap (n0 + p) = n) (hw3 : IntKind.i64.wrap (-p) = -p) (hn : 0 ≤ n) (hg : g < 0) (hT : TabAt 0 Lib.deBruijn64tab w)
    (cH : Hid (∀ W : World, TabAt 0 Lib.deBruijn64tab W → Calls Tryz.prog 122 #[.agg #[.bool (neg (dm (x))), .string (mag (dm (x)))], .int .i64 n] W fun r w' => r = .returned (.agg #[.bool (neg (m1)), .string (mag (m1))]) ∧ Below W.heap.size W w'))
    (cS : Hid (∀ W : World, Calls Tryz.prog 106 #[.agg #[.bool (neg (dm (y))), .string (mag (dm (y)))]] W fun r w' => r = .returned (.int .i64 g) ∧ Below W.heap.size W w'))
    (cN1 : Hid (∀ W : World, Calls Tryz.prog 117 #[.agg #[.bool (neg (m1)), .string (mag (m1))]] W fun r w' => r = .returned (.agg #[.bool (neg (m2)), .string (mag (m2))]) ∧ Below W.heap.size W w'))
    (cN2 : Hid (∀ W : World, Calls Tryz.prog 117 #[.agg #[.bool (neg (dm (y))), .string (mag (dm (y)))]] W fun r w' => r = .returned (.agg #[.bool (neg (d2)), .string (mag (d2))]) ∧ Below W.heap.size W w'))
    (cD : Hid (∀ W : World, Calls Tryz.prog 123 #[.agg #[.bool (neg (m2)), .string (mag (m2))], .agg #[.bool (neg (d2)), .string (mag (d2))]] W fun r w' => r = .returned (.tuple #[.agg #[.bool (neg (q)), .string (mag (q))], .agg #[.bool (neg (r0)), .string (mag (r0))], .bool true]) ∧ Below W.heap.size W w'))
    (cM : Hid (∀ W : World, TabAt 0 Lib.deBruijn64tab W → Calls Tryz.prog 101 #[.agg #[.bool (neg (q)), .string (mag (q))], .int .i64 (-p)] W fun r w' => r = .returned (.agg #[.bool (neg (dm (z))), .string (mag (dm (z))), .int .i64 (de (z))]) ∧ Below W.heap.size W w'))
    :
    Calls Tryz.prog 80 #[.agg #[.bool (neg (dm (x))), .string (mag (dm (x))), .int .i64 (de (x))], .agg #[.bool (neg (dm (y))), .string (mag (dm (y))), .int .i64 (de (y))], .int .i64 p] w fun r w' => r = .returned (.agg #[.bool (neg (dm (z))), .string (mag (dm (z))), .int .i64 (de (z))]) ∧ Below w.heap.size w w' := by
  have HT := Lib.hid hT
  clear hT
  go_enter Tryz.func80, Tryz.ntmps80
  go_upto_region 1 with (fail)
  have X1 := ((Bx.new w 25 #[.bool (neg (dm (x))), .string (mag (dm (x))), .int .i64 (de (x))]).alloc (.cells #[.bool (neg (dm (y))), .string (mag (dm (y))), .int .i64 (de (y))] 25)).alloc (.cells #[.bool false, .string ⟨#[]⟩, .int .i64 0] 25)
  have X2 := (Bx.at1 w (.cells #[.bool (neg (dm (x))), .string (mag (dm (x))), .int .i64 (de (x))] 25) 25 #[.bool (neg (dm (y))), .string (mag (dm (y))), .int .i64 (de (y))]).alloc (.cells #[.bool false, .string ⟨#[]⟩, .int .i64 0] 25)
  have X3 := Bx.at2 w (.cells #[.bool (neg (dm (x))), .string (mag (dm (x))), .int .i64 (de (x))] 25) (.cells #[.bool (neg (dm (y))), .string (mag (dm (y))), .int .i64 (de (y))] 25) 25 #[.bool false, .string ⟨#[]⟩, .int .i64 0]
  have hB := b3 w (.cells #[.bool (neg (dm (x))), .string (mag (dm (x))), .int .i64 (de (x))] 25) (.cells #[.bool (neg (dm (y))), .string (mag (dm (y))), .int .i64 (de (y))] 25) (.cells #[.bool false, .string ⟨#[]⟩, .int .i64 0] 25)
  generalize ((w.alloc (.cells #[.bool (neg (dm (x))), .string (mag (dm (x))), .int .i64 (de (x))] 25)).alloc (.cells #[.bool (neg (dm (y))), .string (mag (dm (y))), .int .i64 (de (y))] 25)).alloc (.cells #[.bool false, .string ⟨#[]⟩, .int .i64 0] 25) = w0 at *
  have hl0 := X1.lt
  have hl1 := X2.lt
  have hl2 := X3.lt
  obtain ⟨p1, p2, p5, p3, p4, p6⟩ := X1.three
  obtain ⟨q1, q2, q5, q3, q4, q6⟩ := X2.three
  have HK := Lib.hid (And.intro X1 (And.intro X2 (And.intro X3 hB)))
  clear X1 X2 X3 hB
  go_upto_region 2 with (fail)
  obtain ⟨X1, X2, X3, hB⟩ := HK.out
  have hl3 := X3.lt
  go_cut [8, 9] (fun s8 s9 wx => ∃ g8 g9 : Nat, s8 = .pointer (some ⟨g8, 0, none⟩) ∧ s9 = .pointer (some ⟨g9, 0, none⟩) ∧ g8 ≠ g9 ∧ w.heap.size + 2 < g8 ∧ w.heap.size + 2 < g9 ∧ Bx wx g8 23 #[.bool (neg (dm (x))), .string (mag (dm (x)))] ∧ Bx wx g9 23 #[.bool (neg (dm (y))), .string (mag (dm (y)))] ∧ Bx wx (w.heap.size + 2) 25 #[.bool false, .string ⟨#[]⟩, .int .i64 0] ∧ Below w.heap.size w wx)
  case first =>
    go_region
    all_goals
      go_wp2_with fail
      go_meet
      first
        | exact ⟨_, _, rfl, rfl, by omega, by omega, by omega, (Bx.new w0 _ _).alloc _, Bx.at1 w0 _ _ _, (X3.alloc _).alloc _, (nxtA (nxtA hB _) _).drew⟩
        | exact ⟨_, _, rfl, rfl, by omega, by omega, by omega, Bx.at1 w0 _ _ _, (Bx.new w0 _ _).alloc _, (X3.alloc _).alloc _, (nxtA (nxtA hB _) _).drew⟩
  case rest =>
    clear HK p1 p2 p5 p3 p4 p6 q1 q2 q5 q3 q4 q6 X1 X2 X3 hB hl3
    obtain ⟨g8, g9, rfl, rfl, hne, n8', n9', Z8, Z9, Z3, hB⟩ := hcut
    have n8 : w.heap.size + 2 ≠ g8 := Nat.ne_of_lt n8'
    have n9 : w.heap.size + 2 ≠ g9 := Nat.ne_of_lt n9'
    have h8 : w.heap.size ≤ g8 := by omega
    have h9 : w.heap.size ≤ g9 := by omega
    have HE := Lib.hid (And.intro hne (And.intro n8 (And.intro n9 (And.intro h8 h9))))
    clear hne n8' n9' n8 n9 h8 h9
    obtain ⟨p1, p2, p3, p4⟩ := Z8.two
    obtain ⟨q1, q2, q3, q4⟩ := Z9.two
    go_wp2_with fail
    refine (cH.out _ (tab_keep HT.out hB)).mono ?_
    rintro e w3 ⟨rfl, hb⟩
    replace Z8 := Z8.later hb
    replace Z9 := Z9.later hb
    replace Z3 := Z3.later hb
    replace hB := nxt hB hb
    clear hb
    clear p1 p2 p3 p4 q1 q2 q3 q4
    obtain ⟨hne, n8, n9, h8, h9⟩ := HE.out
    obtain ⟨v1, v2, v3, v4⟩ := Z8.two
    replace Z8 := Z8.set2 (.bool (neg (m1))) (.string (mag (m1)))
    replace Z9 := Bx.far2 (i := 0) (j := 1) (Z9) (Ne.symm hne) (.bool (neg (m1))) (.string (mag (m1)))
    replace Z3 := Bx.far2 (i := 0) (j := 1) (Z3) n8 (.bool (neg (m1))) (.string (mag (m1)))
    replace hB := st2 hB h8 (.bool (neg (m1))) (.string (mag (m1)))
    obtain ⟨p1, p2, p3, p4⟩ := Z8.two
    obtain ⟨q1, q2, q3, q4⟩ := Z9.two
    have HK := Lib.hid (And.intro Z8 (And.intro Z9 (And.intro Z3 hB)))
    clear Z8 Z9 Z3 hB
    clear hne n8 n9 h8 h9
    go_wp2_with fail
    obtain ⟨Z8, Z9, Z3, hB⟩ := HK.out
    clear HK
    clear p1 p2 p3 p4 q1 q2 q3 q4
    clear v1 v2 v3 v4
    generalize (w3.setCell ⟨g8, 0, none⟩ (.bool (neg (m1)))).setCell ⟨g8, 1, none⟩ (.string (mag (m1))) = w4 at *
    refine (cS.out _).mono ?_
    rintro e w5 ⟨rfl, hb⟩
    replace Z8 := Z8.later hb
    replace Z9 := Z9.later hb
    replace Z3 := Z3.later hb
    replace hB := nxt hB hb
    clear hb
    obtain ⟨p1, p2, p3, p4⟩ := Z8.two
    obtain ⟨q1, q2, q3, q4⟩ := Z9.two
    have HK := Lib.hid (And.intro Z8 (And.intro Z9 (And.intro Z3 hB)))
    clear Z8 Z9 Z3 hB
    go_upto_region 7 with (fail)
    obtain ⟨Z8, Z9, Z3, hB⟩ := HK.out
    clear HK
    clear p1 p2 p3 p4 q1 q2 q3 q4
    refine wp_region_k [36, 37, 38, 39] [.eq (.agg #[.bool (neg (m1)), .string (mag (m1))]), .eq (.agg #[.bool (neg (m2)), .string (mag (m2))]), .eq (.agg #[.bool (neg (dm (y))), .string (mag (dm (y)))]), .eq (.agg #[.bool (neg (d2)), .string (mag (d2))])] 51 (by kernel_rfl) (by exact fun _ _ _ _ _ h => h) (by kernel_rfl) (by rfl) ?hop ?htail
    case hop =>
      intro A hA
      have hN : A.tmps.size = 51 := by rw [hA]; rfl
      have q8 : A.tmps.getD 8 undef = .pointer (some ⟨g8, 0, none⟩) := by rw [hA]; rfl
      have q9 : A.tmps.getD 9 undef = .pointer (some ⟨g9, 0, none⟩) := by rw [hA]; rfl
      clear hA
      refine ⟨?_, ?_, ?_, ?_, trivial⟩
      · refine kok hN fun u W ev ec ef E B hG hf => ?_
        exact k_val _ rfl rfl hG (by simp [go_sem, B 8 rfl rfl q8, (Z8.later hG).cel]) rfl
      · refine kok hN fun u W ev ec ef E B hG hf => ?_
        exact k_cl rfl rfl (by simp [go_sem, ef, E 36 0 rfl rfl (hf 0 rfl)]) (cN1.out W) hG (fun _ _ => rfl)
      · refine kok hN fun u W ev ec ef E B hG hf => ?_
        exact k_val _ rfl rfl hG (by simp [go_sem, B 9 rfl rfl q9, (Z9.later hG).cel]) rfl
      · refine kok hN fun u W ev ec ef E B hG hf => ?_
        exact k_cl rfl rfl (by simp [go_sem, ef, E 38 2 rfl rfl (hf 2 rfl)]) (cN2.out W) hG (fun _ _ => rfl)
    case htail =>
      intro u w6 hG hP hD
      have f37 : u 1 = .agg #[.bool (neg (m2)), .string (mag (m2))] := hP 1 (by decide)
      have f39 : u 3 = .agg #[.bool (neg (d2)), .string (mag (d2))] := hP 3 (by decide)
      simp only [putAll, Act.put, List.setIfInBounds_toArray, List.set_cons_zero, List.set_cons_succ, List.length_cons, List.length_nil, Nat.reduceAdd, List.drop_succ_cons, List.drop_zero, f37, f39]
      obtain ⟨hne, n8, n9, h8, h9⟩ := HE.out
      replace Z8 := Z8.later hG
      replace Z9 := Z9.later hG
      replace Z3 := Z3.later hG
      replace hB := nxt hB hG
      obtain ⟨v1, v2, v3, v4⟩ := Z8.two
      have Y9 := Bx.far2 (i := 0) (j := 1) (Z9) (Ne.symm hne) (.bool (neg (m2))) (.string (mag (m2)))
      obtain ⟨t1, t2, t3, t4⟩ := Y9.two
      replace Z8 := Bx.far2 (i := 0) (j := 1) (Z8.set2 (.bool (neg (m2))) (.string (mag (m2)))) hne (.bool (neg (d2))) (.string (mag (d2)))
      replace Z9 := Y9.set2 (.bool (neg (d2))) (.string (mag (d2)))
      replace Z3 := Bx.far2 (i := 0) (j := 1) (Bx.far2 (i := 0) (j := 1) (Z3) n8 (.bool (neg (m2))) (.string (mag (m2)))) n9 (.bool (neg (d2))) (.string (mag (d2)))
      replace hB := st2 (st2 hB h8 (.bool (neg (m2))) (.string (mag (m2)))) h9 (.bool (neg (d2))) (.string (mag (d2)))
      obtain ⟨p1, p2, p3, p4⟩ := Z8.two
      obtain ⟨q1, q2, q3, q4⟩ := Z9.two
      have HK := Lib.hid (And.intro Z8 (And.intro Z9 (And.intro Z3 hB)))
      clear Z8 Z9 Z3 hB
      clear hne n8 n9 h8 h9 hP hD hG f37 f39 Y9
      go_wp2_with fail
      obtain ⟨Z8, Z9, Z3, hB⟩ := HK.out
      clear HK
      clear p1 p2 p3 p4 q1 q2 q3 q4
      clear v1 v2 v3 v4 t1 t2 t3 t4
      generalize (((w6.setCell ⟨g8, 0, none⟩ (.bool (neg (m2)))).setCell ⟨g8, 1, none⟩ (.string (mag (m2)))).setCell ⟨g9, 0, none⟩ (.bool (neg (d2)))).setCell ⟨g9, 1, none⟩ (.string (mag (d2))) = w8 at *
      refine (cD.out _).mono ?_
      rintro e w9 ⟨rfl, hb⟩
      replace Z3 := Z3.later hb
      replace hB := nxt hB hb
      clear hb Z8 Z9
      have X10 := (Bx.new w9 23 #[.bool (neg (q)), .string (mag (q))]).alloc (.cells #[.bool (neg (r0)), .string (mag (r0))] 23)
      replace Z3 := (Z3.alloc (.cells #[.bool (neg (q)), .string (mag (q))] 23)).alloc (.cells #[.bool (neg (r0)), .string (mag (r0))] 23)
      replace hB := nxtA (nxtA hB (.cells #[.bool (neg (q)), .string (mag (q))] 23)) (.cells #[.bool (neg (r0)), .string (mag (r0))] 23)
      obtain ⟨p1, p2, _, _⟩ := X10.two
      clear X10
      go_wp2_with fail
      refine (cM.out _ (tab_keep HT.out hB)).mono ?_
      rintro e w10 ⟨rfl, hb⟩
      replace Z3 := Z3.later hb
      replace hB := nxt hB hb
      clear hb p1 p2
      obtain ⟨t1, t2, t5, t3, t4, t6⟩ := Z3.three
      go_wp2_with fail
      exact bodyPost_ret (v := .agg #[.bool (neg (dm (z))), .string (mag (dm (z))), .int .i64 (de (z))]) (by simp [results, Tryz.results80, go_sem, (Z3.set3 _ _ _).cel]) rfl ⟨rfl, st3 hB (Nat.le_add_right _ 2) _ _ _⟩

set_option maxRecDepth 100000 in
set_option maxHeartbeats 1000000 in
theorem sBelow_dn (x y z : Dyadic) (p n n0 g q r0 d1 : Int) (w : World) (hw1 : IntKind.i64.wrap (de x - de y) = n0) (hw2 : IntKind.i64.wrap (n0 + p) = n) (hw3 : IntKind.i64.wrap (-p) = -p) (hw4 : IntKind.i64.wrap (-n) = -n) (hn : n < 0) (hg : 0 ≤ g) (hT : TabAt 0 Lib.deBruijn64tab w)
    (cH : Hid (∀ W : World, TabAt 0 Lib.deBruijn64tab W → Calls Tryz.prog 122 #[.agg #[.bool (neg (dm (y))), .string (mag (dm (y)))], .int .i64 (-n)] W fun r w' => r = .returned (.agg #[.bool (neg (d1)), .string (mag (d1))]) ∧ Below W.heap.size W w'))
    (cS : Hid (∀ W : World, Calls Tryz.prog 106 #[.agg #[.bool (neg (d1)), .string (mag (d1))]] W fun r w' => r = .returned (.int .i64 g) ∧ Below W.heap.size W w'))
    (cD : Hid (∀ W : World, Calls Tryz.prog 123 #[.agg #[.bool (neg (dm (x))), .string (mag (dm (x)))], .agg #[.bool (neg (d1)), .string (mag (d1))]] W fun r w' => r = .returned (.tuple #[.agg #[.bool (neg (q)), .string (mag (q))], .agg #[.bool (neg (r0)), .string (mag (r0))], .bool true]) ∧ Below W.heap.size W w'))
    (cM : Hid (∀ W : World, TabAt 0 Lib.deBruijn64tab W → Calls Tryz.prog 101 #[.agg #[.bool (neg (q)), .string (mag (q))], .int .i64 (-p)] W fun r w' => r = .returned (.agg #[.bool (neg (dm (z))), .string (mag (dm (z))), .int .i64 (de (z))]) ∧ Below W.heap.size W w'))
    :
    Calls Tryz.prog 80 #[.agg #[.bool (neg (dm (x))), .string (mag (dm (x))), .int .i64 (de (x))], .agg #[.bool (neg (dm (y))), .string (mag (dm (y))), .int .i64 (de (y))], .int .i64 p] w fun r w' => r = .returned (.agg #[.bool (neg (dm (z))), .string (mag (dm (z))), .int .i64 (de (z))]) ∧ Below w.heap.size w w' := by
  have HT := Lib.hid hT
  clear hT
  go_enter Tryz.func80, Tryz.ntmps80
  go_upto_region 1 with (fail)
  have X1 := ((Bx.new w 25 #[.bool (neg (dm (x))), .string (mag (dm (x))), .int .i64 (de (x))]).alloc (.cells #[.bool (neg (dm (y))), .string (mag (dm (y))), .int .i64 (de (y))] 25)).alloc (.cells #[.bool false, .string ⟨#[]⟩, .int .i64 0] 25)
  have X2 := (Bx.at1 w (.cells #[.bool (neg (dm (x))), .string (mag (dm (x))), .int .i64 (de (x))] 25) 25 #[.bool (neg (dm (y))), .string (mag (dm (y))), .int .i64 (de (y))]).alloc (.cells #[.bool false, .string ⟨#[]⟩, .int .i64 0] 25)
  have X3 := Bx.at2 w (.cells #[.bool (neg (dm (x))), .string (mag (dm (x))), .int .i64 (de (x))] 25) (.cells #[.bool (neg (dm (y))), .string (mag (dm (y))), .int .i64 (de (y))] 25) 25 #[.bool false, .string ⟨#[]⟩, .int .i64 0]
  have hB := b3 w (.cells #[.bool (neg (dm (x))), .string (mag (dm (x))), .int .i64 (de (x))] 25) (.cells #[.bool (neg (dm (y))), .string (mag (dm (y))), .int .i64 (de (y))] 25) (.cells #[.bool false, .string ⟨#[]⟩, .int .i64 0] 25)
  generalize ((w.alloc (.cells #[.bool (neg (dm (x))), .string (mag (dm (x))), .int .i64 (de (x))] 25)).alloc (.cells #[.bool (neg (dm (y))), .string (mag (dm (y))), .int .i64 (de (y))] 25)).alloc (.cells #[.bool false, .string ⟨#[]⟩, .int .i64 0] 25) = w0 at *
  have hl0 := X1.lt
  have hl1 := X2.lt
  have hl2 := X3.lt
  obtain ⟨p1, p2, p5, p3, p4, p6⟩ := X1.three
  obtain ⟨q1, q2, q5, q3, q4, q6⟩ := X2.three
  have HK := Lib.hid (And.intro X1 (And.intro X2 (And.intro X3 hB)))
  clear X1 X2 X3 hB
  go_upto_region 2 with (fail)
  obtain ⟨X1, X2, X3, hB⟩ := HK.out
  have hl3 := X3.lt
  go_cut [8, 9] (fun s8 s9 wx => ∃ g8 g9 : Nat, s8 = .pointer (some ⟨g8, 0, none⟩) ∧ s9 = .pointer (some ⟨g9, 0, none⟩) ∧ g8 ≠ g9 ∧ w.heap.size + 2 < g8 ∧ w.heap.size + 2 < g9 ∧ Bx wx g8 23 #[.bool (neg (dm (x))), .string (mag (dm (x)))] ∧ Bx wx g9 23 #[.bool (neg (dm (y))), .string (mag (dm (y)))] ∧ Bx wx (w.heap.size + 2) 25 #[.bool false, .string ⟨#[]⟩, .int .i64 0] ∧ Below w.heap.size w wx)
  case first =>
    go_region
    all_goals
      go_wp2_with fail
      go_meet
      first
        | exact ⟨_, _, rfl, rfl, by omega, by omega, by omega, (Bx.new w0 _ _).alloc _, Bx.at1 w0 _ _ _, (X3.alloc _).alloc _, (nxtA (nxtA hB _) _).drew⟩
        | exact ⟨_, _, rfl, rfl, by omega, by omega, by omega, Bx.at1 w0 _ _ _, (Bx.new w0 _ _).alloc _, (X3.alloc _).alloc _, (nxtA (nxtA hB _) _).drew⟩
  case rest =>
    clear HK p1 p2 p5 p3 p4 p6 q1 q2 q5 q3 q4 q6 X1 X2 X3 hB hl3
    obtain ⟨g8, g9, rfl, rfl, hne, n8', n9', Z8, Z9, Z3, hB⟩ := hcut
    have n8 : w.heap.size + 2 ≠ g8 := Nat.ne_of_lt n8'
    have n9 : w.heap.size + 2 ≠ g9 := Nat.ne_of_lt n9'
    have h8 : w.heap.size ≤ g8 := by omega
    have h9 : w.heap.size ≤ g9 := by omega
    have HE := Lib.hid (And.intro hne (And.intro n8 (And.intro n9 (And.intro h8 h9))))
    clear hne n8' n9' n8 n9 h8 h9
    obtain ⟨p1, p2, p3, p4⟩ := Z8.two
    obtain ⟨q1, q2, q3, q4⟩ := Z9.two
    go_wp2_with fail
    refine (cH.out _ (tab_keep HT.out hB)).mono ?_
    rintro e w3 ⟨rfl, hb⟩
    replace Z8 := Z8.later hb
    replace Z9 := Z9.later hb
    replace Z3 := Z3.later hb
    replace hB := nxt hB hb
    clear hb
    clear p1 p2 p3 p4 q1 q2 q3 q4
    obtain ⟨hne, n8, n9, h8, h9⟩ := HE.out
    obtain ⟨v1, v2, v3, v4⟩ := Z9.two
    replace Z9 := Z9.set2 (.bool (neg (d1))) (.string (mag (d1)))
    replace Z8 := Bx.far2 (i := 0) (j := 1) (Z8) hne (.bool (neg (d1))) (.string (mag (d1)))
    replace Z3 := Bx.far2 (i := 0) (j := 1) (Z3) n9 (.bool (neg (d1))) (.string (mag (d1)))
    replace hB := st2 hB h9 (.bool (neg (d1))) (.string (mag (d1)))
    obtain ⟨p1, p2, p3, p4⟩ := Z8.two
    obtain ⟨q1, q2, q3, q4⟩ := Z9.two
    have HK := Lib.hid (And.intro Z8 (And.intro Z9 (And.intro Z3 hB)))
    clear Z8 Z9 Z3 hB
    clear hne n8 n9 h8 h9
    go_wp2_with fail
    obtain ⟨Z8, Z9, Z3, hB⟩ := HK.out
    clear HK
    clear p1 p2 p3 p4 q1 q2 q3 q4
    clear v1 v2 v3 v4
    generalize (w3.setCell ⟨g9, 0, none⟩ (.bool (neg (d1)))).setCell ⟨g9, 1, none⟩ (.string (mag (d1))) = w4 at *
    refine (cS.out _).mono ?_
    rintro e w5 ⟨rfl, hb⟩
    replace Z8 := Z8.later hb
    replace Z9 := Z9.later hb
    replace Z3 := Z3.later hb
    replace hB := nxt hB hb
    clear hb
    obtain ⟨p1, p2, p3, p4⟩ := Z8.two
    obtain ⟨q1, q2, q3, q4⟩ := Z9.two
    clear p3 p4 q3 q4
    go_wp2_with fail
    clear p1 p2 q1 q2
    refine (cD.out _).mono ?_
    rintro e w9 ⟨rfl, hb⟩
    replace Z3 := Z3.later hb
    replace hB := nxt hB hb
    clear hb Z8 Z9
    have X10 := (Bx.new w9 23 #[.bool (neg (q)), .string (mag (q))]).alloc (.cells #[.bool (neg (r0)), .string (mag (r0))] 23)
    replace Z3 := (Z3.alloc (.cells #[.bool (neg (q)), .string (mag (q))] 23)).alloc (.cells #[.bool (neg (r0)), .string (mag (r0))] 23)
    replace hB := nxtA (nxtA hB (.cells #[.bool (neg (q)), .string (mag (q))] 23)) (.cells #[.bool (neg (r0)), .string (mag (r0))] 23)
    obtain ⟨p1, p2, _, _⟩ := X10.two
    clear X10
    go_wp2_with fail
    refine (cM.out _ (tab_keep HT.out hB)).mono ?_
    rintro e w10 ⟨rfl, hb⟩
    replace Z3 := Z3.later hb
    replace hB := nxt hB hb
    clear hb p1 p2
    obtain ⟨t1, t2, t5, t3, t4, t6⟩ := Z3.three
    go_wp2_with fail
    exact bodyPost_ret (v := .agg #[.bool (neg (dm (z))), .string (mag (dm (z))), .int .i64 (de (z))]) (by simp [results, Tryz.results80, go_sem, (Z3.set3 _ _ _).cel]) rfl ⟨rfl, st3 hB (Nat.le_add_right _ 2) _ _ _⟩

set_option maxRecDepth 100000 in
set_option maxHeartbeats 1000000 in
theorem sBelow_dnn (x y z : Dyadic) (p n n0 g q r0 d1 m2 d2 : Int) (w : World) (hw1 : IntKind.i64.wrap (de x - de y) = n0) (hw2 : IntKind.i64.wrap (n0 + p) = n) (hw3 : IntKind.i64.wrap (-p) = -p) (hw4 : IntKind.i64.wrap (-n) = -n) (hn : n < 0) (hg : g < 0) (hT : TabAt 0 Lib.deBruijn64tab w)
    (cH : Hid (∀ W : World, TabAt 0 Lib.deBruijn64tab W → Calls Tryz.prog 122 #[.agg #[.bool (neg (dm (y))), .string (mag (dm (y)))], .int .i64 (-n)] W fun r w' => r = .returned (.agg #[.bool (neg (d1)), .string (mag (d1))]) ∧ Below W.heap.size W w'))
    (cS : Hid (∀ W : World, Calls Tryz.prog 106 #[.agg #[.bool (neg (d1)), .string (mag (d1))]] W fun r w' => r = .returned (.int .i64 g) ∧ Below W.heap.size W w'))
    (cN1 : Hid (∀ W : World, Calls Tryz.prog 117 #[.agg #[.bool (neg (dm (x))), .string (mag (dm (x)))]] W fun r w' => r = .returned (.agg #[.bool (neg (m2)), .string (mag (m2))]) ∧ Below W.heap.size W w'))
    (cN2 : Hid (∀ W : World, Calls Tryz.prog 117 #[.agg #[.bool (neg (d1)), .string (mag (d1))]] W fun r w' => r = .returned (.agg #[.bool (neg (d2)), .string (mag (d2))]) ∧ Below W.heap.size W w'))
    (cD : Hid (∀ W : World, Calls Tryz.prog 123 #[.agg #[.bool (neg (m2)), .string (mag (m2))], .agg #[.bool (neg (d2)), .string (mag (d2))]] W fun r w' => r = .returned (.tuple #[.agg #[.bool (neg (q)), .string (mag (q))], .agg #[.bool (neg (r0)), .string (mag (r0))], .bool true]) ∧ Below W.heap.size W w'))
    (cM : Hid (∀ W : World, TabAt 0 Lib.deBruijn64tab W → Calls Tryz.prog 101 #[.agg #[.bool (neg (q)), .string (mag (q))], .int .i64 (-p)] W fun r w' => r = .returned (.agg #[.bool (neg (dm (z))), .string (mag (dm (z))), .int .i64 (de (z))]) ∧ Below W.heap.size W w'))
    :
    Calls Tryz.prog 80 #[.agg #[.bool (neg (dm (x))), .string (mag (dm (x))), .int .i64 (de (x))], .agg #[.bool (neg (dm (y))), .string (mag (dm (y))), .int .i64 (de (y))], .int .i64 p] w fun r w' => r = .returned (.agg #[.bool (neg (dm (z))), .string (mag (dm (z))), .int .i64 (de (z))]) ∧ Below w.heap.size w w' := by
  have HT := Lib.hid hT
  clear hT
  go_enter Tryz.func80, Tryz.ntmps80
  go_upto_region 1 with (fail)
  have X1 := ((Bx.new w 25 #[.bool (neg (dm (x))), .string (mag (dm (x))), .int .i64 (de (x))]).alloc (.cells #[.bool (neg (dm (y))), .string (mag (dm (y))), .int .i64 (de (y))] 25)).alloc (.cells #[.bool false, .string ⟨#[]⟩, .int .i64 0] 25)
  have X2 := (Bx.at1 w (.cells #[.bool (neg (dm (x))), .string (mag (dm (x))), .int .i64 (de (x))] 25) 25 #[.bool (neg (dm (y))), .string (mag (dm (y))), .int .i64 (de (y))]).alloc (.cells #[.bool false, .string ⟨#[]⟩, .int .i64 0] 25)
  have X3 := Bx.at2 w (.cells #[.bool (neg (dm (x))), .string (mag (dm (x))), .int .i64 (de (x))] 25) (.cells #[.bool (neg (dm (y))), .string (mag (dm (y))), .int .i64 (de (y))] 25) 25 #[.bool false, .string ⟨#[]⟩, .int .i64 0]
  have hB := b3 w (.cells #[.bool (neg (dm (x))), .string (mag (dm (x))), .int .i64 (de (x))] 25) (.cells #[.bool (neg (dm (y))), .string (mag (dm (y))), .int .i64 (de (y))] 25) (.cells #[.bool false, .string ⟨#[]⟩, .int .i64 0] 25)
  generalize ((w.alloc (.cells #[.bool (neg (dm (x))), .string (mag (dm (x))), .int .i64 (de (x))] 25)).alloc (.cells #[.bool (neg (dm (y))), .string (mag (dm (y))), .int .i64 (de (y))] 25)).alloc (.cells #[.bool false, .string ⟨#[]⟩, .int .i64 0] 25) = w0 at *
  have hl0 := X1.lt
  have hl1 := X2.lt
  have hl2 := X3.lt
  obtain ⟨p1, p2, p5, p3, p4, p6⟩ := X1.three
  obtain ⟨q1, q2, q5, q3, q4, q6⟩ := X2.three
  have HK := Lib.hid (And.intro X1 (And.intro X2 (And.intro X3 hB)))
  clear X1 X2 X3 hB
  go_upto_region 2 with (fail)
  obtain ⟨X1, X2, X3, hB⟩ := HK.out
  have hl3 := X3.lt
  go_cut [8, 9] (fun s8 s9 wx => ∃ g8 g9 : Nat, s8 = .pointer (some ⟨g8, 0, none⟩) ∧ s9 = .pointer (some ⟨g9, 0, none⟩) ∧ g8 ≠ g9 ∧ w.heap.size + 2 < g8 ∧ w.heap.size + 2 < g9 ∧ Bx wx g8 23 #[.bool (neg (dm (x))), .string (mag (dm (x)))] ∧ Bx wx g9 23 #[.bool (neg (dm (y))), .string (mag (dm (y)))] ∧ Bx wx (w.heap.size + 2) 25 #[.bool false, .string ⟨#[]⟩, .int .i64 0] ∧ Below w.heap.size w wx)
  case first =>
    go_region
    all_goals
      go_wp2_with fail
      go_meet
      first
        | exact ⟨_, _, rfl, rfl, by omega, by omega, by omega, (Bx.new w0 _ _).alloc _, Bx.at1 w0 _ _ _, (X3.alloc _).alloc _, (nxtA (nxtA hB _) _).drew⟩
        | exact ⟨_, _, rfl, rfl, by omega, by omega, by omega, Bx.at1 w0 _ _ _, (Bx.new w0 _ _).alloc _, (X3.alloc _).alloc _, (nxtA (nxtA hB _) _).drew⟩
  case rest =>
    clear HK p1 p2 p5 p3 p4 p6 q1 q2 q5 q3 q4 q6 X1 X2 X3 hB hl3
    obtain ⟨g8, g9, rfl, rfl, hne, n8', n9', Z8, Z9, Z3, hB⟩ := hcut
    have n8 : w.heap.size + 2 ≠ g8 := Nat.ne_of_lt n8'
    have n9 : w.heap.size + 2 ≠ g9 := Nat.ne_of_lt n9'
    have h8 : w.heap.size ≤ g8 := by omega
    have h9 : w.heap.size ≤ g9 := by omega
    have HE := Lib.hid (And.intro hne (And.intro n8 (And.intro n9 (And.intro h8 h9))))
    clear hne n8' n9' n8 n9 h8 h9
    obtain ⟨p1, p2, p3, p4⟩ := Z8.two
    obtain ⟨q1, q2, q3, q4⟩ := Z9.two
    go_wp2_with fail
    refine (cH.out _ (tab_keep HT.out hB)).mono ?_
    rintro e w3 ⟨rfl, hb⟩
    replace Z8 := Z8.later hb
    replace Z9 := Z9.later hb
    replace Z3 := Z3.later hb
    replace hB := nxt hB hb
    clear hb
    clear p1 p2 p3 p4 q1 q2 q3 q4
    obtain ⟨hne, n8, n9, h8, h9⟩ := HE.out
    obtain ⟨v1, v2, v3, v4⟩ := Z9.two
    replace Z9 := Z9.set2 (.bool (neg (d1))) (.string (mag (d1)))
    replace Z8 := Bx.far2 (i := 0) (j := 1) (Z8) hne (.bool (neg (d1))) (.string (mag (d1)))
    replace Z3 := Bx.far2 (i := 0) (j := 1) (Z3) n9 (.bool (neg (d1))) (.string (mag (d1)))
    replace hB := st2 hB h9 (.bool (neg (d1))) (.string (mag (d1)))
    obtain ⟨p1, p2, p3, p4⟩ := Z8.two
    obtain ⟨q1, q2, q3, q4⟩ := Z9.two
    have HK := Lib.hid (And.intro Z8 (And.intro Z9 (And.intro Z3 hB)))
    clear Z8 Z9 Z3 hB
    clear hne n8 n9 h8 h9
    go_wp2_with fail
    obtain ⟨Z8, Z9, Z3, hB⟩ := HK.out
    clear HK
    clear p1 p2 p3 p4 q1 q2 q3 q4
    clear v1 v2 v3 v4
    generalize (w3.setCell ⟨g9, 0, none⟩ (.bool (neg (d1)))).setCell ⟨g9, 1, none⟩ (.string (mag (d1))) = w4 at *
    refine (cS.out _).mono ?_
    rintro e w5 ⟨rfl, hb⟩
    replace Z8 := Z8.later hb
    replace Z9 := Z9.later hb
    replace Z3 := Z3.later hb
    replace hB := nxt hB hb
    clear hb
    obtain ⟨p1, p2, p3, p4⟩ := Z8.two
    obtain ⟨q1, q2, q3, q4⟩ := Z9.two
    have HK := Lib.hid (And.intro Z8 (And.intro Z9 (And.intro Z3 hB)))
    clear Z8 Z9 Z3 hB
    go_upto_region 7 with (fail)
    obtain ⟨Z8, Z9, Z3, hB⟩ := HK.out
    clear HK
    clear p1 p2 p3 p4 q1 q2 q3 q4
    refine wp_region_k [36, 37, 38, 39] [.eq (.agg #[.bool (neg (dm (x))), .string (mag (dm (x)))]), .eq (.agg #[.bool (neg (m2)), .string (mag (m2))]), .eq (.agg #[.bool (neg (d1)), .string (mag (d1))]), .eq (.agg #[.bool (neg (d2)), .string (mag (d2))])] 51 (by kernel_rfl) (by exact fun _ _ _ _ _ h => h) (by kernel_rfl) (by rfl) ?hop ?htail
    case hop =>
      intro A hA
      have hN : A.tmps.size = 51 := by rw [hA]; rfl
      have q8 : A.tmps.getD 8 undef = .pointer (some ⟨g8, 0, none⟩) := by rw [hA]; rfl
      have q9 : A.tmps.getD 9 undef = .pointer (some ⟨g9, 0, none⟩) := by rw [hA]; rfl
      clear hA
      refine ⟨?_, ?_, ?_, ?_, trivial⟩
      · refine kok hN fun u W ev ec ef E B hG hf => ?_
        exact k_val _ rfl rfl hG (by simp [go_sem, B 8 rfl rfl q8, (Z8.later hG).cel]) rfl
      · refine kok hN fun u W ev ec ef E B hG hf => ?_
        exact k_cl rfl rfl (by simp [go_sem, ef, E 36 0 rfl rfl (hf 0 rfl)]) (cN1.out W) hG (fun _ _ => rfl)
      · refine kok hN fun u W ev ec ef E B hG hf => ?_
        exact k_val _ rfl rfl hG (by simp [go_sem, B 9 rfl rfl q9, (Z9.later hG).cel]) rfl
      · refine kok hN fun u W ev ec ef E B hG hf => ?_
        exact k_cl rfl rfl (by simp [go_sem, ef, E 38 2 rfl rfl (hf 2 rfl)]) (cN2.out W) hG (fun _ _ => rfl)
    case htail =>
      intro u w6 hG hP hD
      have f37 : u 1 = .agg #[.bool (neg (m2)), .string (mag (m2))] := hP 1 (by decide)
      have f39 : u 3 = .agg #[.bool (neg (d2)), .string (mag (d2))] := hP 3 (by decide)
      simp only [putAll, Act.put, List.setIfInBounds_toArray, List.set_cons_zero, List.set_cons_succ, List.length_cons, List.length_nil, Nat.reduceAdd, List.drop_succ_cons, List.drop_zero, f37, f39]
      obtain ⟨hne, n8, n9, h8, h9⟩ := HE.out
      replace Z8 := Z8.later hG
      replace Z9 := Z9.later hG
      replace Z3 := Z3.later hG
      replace hB := nxt hB hG
      obtain ⟨v1, v2, v3, v4⟩ := Z8.two
      have Y9 := Bx.far2 (i := 0) (j := 1) (Z9) (Ne.symm hne) (.bool (neg (m2))) (.string (mag (m2)))
      obtain ⟨t1, t2, t3, t4⟩ := Y9.two
      replace Z8 := Bx.far2 (i := 0) (j := 1) (Z8.set2 (.bool (neg (m2))) (.string (mag (m2)))) hne (.bool (neg (d2))) (.string (mag (d2)))
      replace Z9 := Y9.set2 (.bool (neg (d2))) (.string (mag (d2)))
      replace Z3 := Bx.far2 (i := 0) (j := 1) (Bx.far2 (i := 0) (j := 1) (Z3) n8 (.bool (neg (m2))) (.string (mag (m2)))) n9 (.bool (neg (d2))) (.string (mag (d2)))
      replace hB := st2 (st2 hB h8 (.bool (neg (m2))) (.string (mag (m2)))) h9 (.bool (neg (d2))) (.string (mag (d2)))
      obtain ⟨p1, p2, p3, p4⟩ := Z8.two
      obtain ⟨q1, q2, q3, q4⟩ := Z9.two
      have HK := Lib.hid (And.intro Z8 (And.intro Z9 (And.intro Z3 hB)))
      clear Z8 Z9 Z3 hB
      clear hne n8 n9 h8 h9 hP hD hG f37 f39 Y9
      go_wp2_with fail
      obtain ⟨Z8, Z9, Z3, hB⟩ := HK.out
      clear HK
      clear p1 p2 p3 p4 q1 q2 q3 q4
      clear v1 v2 v3 v4 t1 t2 t3 t4
      generalize (((w6.setCell ⟨g8, 0, none⟩ (.bool (neg (m2)))).setCell ⟨g8, 1, none⟩ (.string (mag (m2)))).setCell ⟨g9, 0, none⟩ (.bool (neg (d2)))).setCell ⟨g9, 1, none⟩ (.string (mag (d2))) = w8 at *
      refine (cD.out _).mono ?_
      rintro e w9 ⟨rfl, hb⟩
      replace Z3 := Z3.later hb
      replace hB := nxt hB hb
      clear hb Z8 Z9
      have X10 := (Bx.new w9 23 #[.bool (neg (q)), .string (mag (q))]).alloc (.cells #[.bool (neg (r0)), .string (mag (r0))] 23)
      replace Z3 := (Z3.alloc (.cells #[.bool (neg (q)), .string (mag (q))] 23)).alloc (.cells #[.bool (neg (r0)), .string (mag (r0))] 23)
      replace hB := nxtA (nxtA hB (.cells #[.bool (neg (q)), .string (mag (q))] 23)) (.cells #[.bool (neg (r0)), .string (mag (r0))] 23)
      obtain ⟨p1, p2, _, _⟩ := X10.two
      clear X10
      go_wp2_with fail
      refine (cM.out _ (tab_keep HT.out hB)).mono ?_
      rintro e w10 ⟨rfl, hb⟩
      replace Z3 := Z3.later hb
      replace hB := nxt hB hb
      clear hb p1 p2
      obtain ⟨t1, t2, t5, t3, t4, t6⟩ := Z3.three
      go_wp2_with fail
      exact bodyPost_ret (v := .agg #[.bool (neg (dm (z))), .string (mag (dm (z))), .int .i64 (de (z))]) (by simp [results, Tryz.results80, go_sem, (Z3.set3 _ _ _).cel]) rfl ⟨rfl, st3 hB (Nat.le_add_right _ 2) _ _ _⟩

end Go.Proofs.YtchfglbkiebfpaaGreatDoor

