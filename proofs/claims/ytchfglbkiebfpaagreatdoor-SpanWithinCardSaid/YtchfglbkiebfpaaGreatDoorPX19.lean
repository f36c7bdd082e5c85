/- The walks and plain laws beneath the statements. -/
import Derived.Test.YtchfglbkiebfpaaGreatDoorPX7
import Derived.Test.YtchfglbkiebfpaaGreatDoorPX11
import Derived.Test.YtchfglbkiebfpaaGreatDoorPX18
namespace Go.Proofs.YtchfglbkiebfpaaGreatDoor
open Go.RowKit

theorem Bx.far3 {w : World} {g g' i j k : Nat} {t : TypeId} {cs : Array Value} (h : Bx w g t cs) (hp : g ≠ g') (u v s : Value) : Bx (((w.setCell ⟨g', i, none⟩ u).setCell ⟨g', j, none⟩ v).setCell ⟨g', k, none⟩ s) g t cs := (h.far2 hp u v).far (p := ⟨g', k, none⟩) hp s
theorem Bx.set5a {w : World} {g : Nat} {t : TypeId} {x0 x1 x2 x3 x4 : Value} (h : Bx w g t #[x0, x1, x2, x3, x4]) (u v : Value) : Bx ((w.setCell ⟨g, 1, none⟩ u).setCell ⟨g, 2, none⟩ v) g t #[x0, u, v, x3, x4] := (h.set 1 u).set 2 v
theorem Bx.set5b {w : World} {g : Nat} {t : TypeId} {x0 x1 x2 x3 x4 : Value} (h : Bx w g t #[x0, x1, x2, x3, x4]) (u v : Value) : Bx ((w.setCell ⟨g, 3, none⟩ u).setCell ⟨g, 4, none⟩ v) g t #[x0, x1, x2, u, v] := (h.set 3 u).set 4 v
theorem Bx.set5 {w : World} {g : Nat} {t : TypeId} {x0 x1 x2 x3 x4 : Value} (h : Bx w g t #[x0, x1, x2, x3, x4]) (a b c d e : Value) : Bx (((((w.setCell ⟨g, 0, none⟩ a).setCell ⟨g, 1, none⟩ b).setCell ⟨g, 2, none⟩ c).setCell ⟨g, 3, none⟩ d).setCell ⟨g, 4, none⟩ e) g t #[a, b, c, d, e] := ((((h.set 0 a).set 1 b).set 2 c).set 3 d).set 4 e
theorem st2' {B : Nat} {a w : World} (h : Below B a w) {g : Nat} (hg : B ≤ g) (i j : Nat) (u v : Value) : Below B a ((w.setCell ⟨g, i, none⟩ u).setCell ⟨g, j, none⟩ v) := (h.setCell hg u).setCell hg v
theorem st5 {B : Nat} {a w : World} (h : Below B a w) {g : Nat} (hg : B ≤ g) (x0 x1 x2 x3 x4 : Value) : Below B a (((((w.setCell ⟨g, 0, none⟩ x0).setCell ⟨g, 1, none⟩ x1).setCell ⟨g, 2, none⟩ x2).setCell ⟨g, 3, none⟩ x3).setCell ⟨g, 4, none⟩ x4) := ((((h.setCell hg x0).setCell hg x1).setCell hg x2).setCell hg x3).setCell hg x4

set_option maxRecDepth 100000 in
theorem dNeg_x (s : ByteArray) (b : Bool) (e m : Int) (x : Dyadic) (w : World) (hT : TabAt 0 Lib.deBruijn64tab w)
    (cN : Hid (∀ W : World, Calls Tryz.prog 117 #[.agg #[.bool b, .string s]] W fun r w' => r = .returned (.agg #[.bool (neg m), .string (mag m)]) ∧ Below W.heap.size W w'))
    (cM : Hid (∀ W : World, TabAt 0 Lib.deBruijn64tab W → Calls Tryz.prog 101 #[.agg #[.bool (neg m), .string (mag m)], .int .i64 e] W fun r w' => r = .returned (.agg #[.bool (neg (dm (x))), .string (mag (dm (x))), .int .i64 (de (x))]) ∧ Below W.heap.size W w'))
    :
    Calls Tryz.prog 63 #[.agg #[.bool b, .string s, .int .i64 e]] w fun r w' => r = .returned (.agg #[.bool (neg (dm (x))), .string (mag (dm (x))), .int .i64 (de (x))]) ∧ Below w.heap.size w w' :=
  RetAt.at <| ret_sk ttOk mixed (fun a w => Tryz.call63 a w) Tryz.func63 Tryz.ntmps63 Tryz.results63 _ rfl _ [.reg 6 [], .o 1 2 (.ret (.agg [.val (.bool (neg m)), .val (.string (mag m))])), .o 1 5 (.ret (.val (vN (x))))] (fun W hW hR => (fun (hT : Tab0 W) => ai (rc W Tryz.call117 fun W => cN.out W) <| ai (rt hT Tryz.call101 fun W h => cM.out W h) <| hR) (tab_keep hT hW)) fun W => by kernel_rfl

theorem dNeg_any (s : ByteArray) (b : Bool) (e : Int) (w : World) (hs : s.size ≤ 536870912) (he1 : -4611686018427387904 ≤ e) (he2 : e ≤ 4611686018427387904) (hT : TabAt 0 Lib.deBruijn64tab w) :
    Calls Tryz.prog 63 #[.agg #[.bool b, .string s, .int .i64 e]] w fun r w' => r = .returned (.agg #[.bool (neg (dm (-dy (ival b (sval s)) e))), .string (mag (dm (-dy (ival b (sval s)) e))), .int .i64 (de (-dy (ival b (sval s)) e))]) ∧ Below w.heap.size w w' := by
  rw [dy_neg]
  have hz : (mag (-ival b (sval s))).size ≤ 536870912 := by rw [mag_size, bsz_neg]; exact Nat.le_trans (bsz_ival b s) hs
  have c := Lib.hid (fun W h => dMake_any (mag (-ival b (sval s))) (neg (-ival b (sval s))) e W hz he1 he2 h)
  rw [ival_mk] at c
  exact dNeg_x s b e _ _ w hT (Lib.hid (fun W => wNeg_any s b W)) c

set_option maxRecDepth 100000 in
set_option maxHeartbeats 1000000 in
theorem dLevel_A (s t : ByteArray) (b c : Bool) (e f : Int) (b2 : Bool) (s2 : ByteArray) (e2 : Int) (X Y : Int) (w : World) (hT : TabAt 0 Lib.deBruijn64tab w)
    (cF : Hid (∀ W : World, TabAt 0 Lib.deBruijn64tab W → Calls Tryz.prog 79 #[.agg #[.bool b, .string s, .int .i64 e]] W fun r w' => r = .returned (.agg #[.bool false, .string ⟨#[]⟩, .int .i64 0]) ∧ Below W.heap.size W w'))
    (cG : Hid (∀ W : World, TabAt 0 Lib.deBruijn64tab W → Calls Tryz.prog 79 #[.agg #[.bool c, .string t, .int .i64 f]] W fun r w' => r = .returned (.agg #[.bool b2, .string s2, .int .i64 e2]) ∧ Below W.heap.size W w'))
    (cU : Hid (∀ W : World, TabAt 0 Lib.deBruijn64tab W → Calls Tryz.prog 135 #[.int .i64 e2, .agg #[.bool false, .string ⟨#[]⟩, .int .i64 0]] W fun r w' => r = .returned (.agg #[.bool (neg X), .string (mag X)]) ∧ Below W.heap.size W w'))
    (cV : Hid (∀ W : World, TabAt 0 Lib.deBruijn64tab W → Calls Tryz.prog 135 #[.int .i64 e2, .agg #[.bool b2, .string s2, .int .i64 e2]] W fun r w' => r = .returned (.agg #[.bool (neg Y), .string (mag Y)]) ∧ Below W.heap.size W w'))
    :
    Calls Tryz.prog 100 #[.agg #[.bool b, .string s, .int .i64 e], .agg #[.bool c, .string t, .int .i64 f]] w fun r w' => r = .returned (.agg #[.int .i64 e2, .bool (neg X), .string (mag X), .bool (neg Y), .string (mag Y)]) ∧ Below w.heap.size w w' := by
  have HT := Lib.hid hT
  clear hT
  go_enter Tryz.func100, Tryz.ntmps100
  go_upto_region 1 with (fail)
  have X1 := ((Bx.new w 25 #[.bool b, .string s, .int .i64 e]).alloc (.cells #[.bool c, .string t, .int .i64 f] 25)).alloc (.cells #[.int .i64 0, .bool false, .string ⟨#[]⟩, .bool false, .string ⟨#[]⟩] 104)
  have X2 := (Bx.at1 w (.cells #[.bool b, .string s, .int .i64 e] 25) 25 #[.bool c, .string t, .int .i64 f]).alloc (.cells #[.int .i64 0, .bool false, .string ⟨#[]⟩, .bool false, .string ⟨#[]⟩] 104)
  have X3 := Bx.at2 w (.cells #[.bool b, .string s, .int .i64 e] 25) (.cells #[.bool c, .string t, .int .i64 f] 25) 104 #[.int .i64 0, .bool false, .string ⟨#[]⟩, .bool false, .string ⟨#[]⟩]
  have hB := b3 w (.cells #[.bool b, .string s, .int .i64 e] 25) (.cells #[.bool c, .string t, .int .i64 f] 25) (.cells #[.int .i64 0, .bool false, .string ⟨#[]⟩, .bool false, .string ⟨#[]⟩] 104)
  generalize ((w.alloc (.cells #[.bool b, .string s, .int .i64 e] 25)).alloc (.cells #[.bool c, .string t, .int .i64 f] 25)).alloc (.cells #[.int .i64 0, .bool false, .string ⟨#[]⟩, .bool false, .string ⟨#[]⟩] 104) = w0 at *
  have hl0 := X1.lt
  have hl1 := X2.lt
  have hl2 := X3.lt
  refine wp_region_k [7, 8, 9, 10] [.eq (.agg #[.bool b, .string s, .int .i64 e]), .eq (.agg #[.bool false, .string ⟨#[]⟩, .int .i64 0]), .eq (.agg #[.bool c, .string t, .int .i64 f]), .eq (.agg #[.bool b2, .string s2, .int .i64 e2])] 41 (by kernel_rfl) (by exact fun _ _ _ _ _ h => h) (by kernel_rfl) (by rfl) ?hop ?htail
  case hop =>
    intro A hA
    have hN : A.tmps.size = 41 := by rw [hA]; rfl
    have q2 : A.tmps.getD 2 undef = .pointer (some ⟨w.heap.size, 0, none⟩) := by rw [hA]; rfl
    have q3 : A.tmps.getD 3 undef = .pointer (some ⟨w.heap.size + 1, 0, none⟩) := by rw [hA]; rfl
    clear hA
    refine ⟨?_, ?_, ?_, ?_, trivial⟩
    · refine kok hN fun u W ev ec ef E B hG hf => ?_
      exact k_val _ rfl rfl hG (by simp [go_sem, B 2 rfl rfl q2, (X1.later hG).cel]) rfl
    · refine kok hN fun u W ev ec ef E B hG hf => ?_
      exact k_cl rfl rfl (by simp [go_sem, ef, E 7 0 rfl rfl (hf 0 rfl)]) (cF.out W (tab_keep HT.out (nxt hB hG))) hG (fun _ _ => rfl)
    · refine kok hN fun u W ev ec ef E B hG hf => ?_
      exact k_val _ rfl rfl hG (by simp [go_sem, B 3 rfl rfl q3, (X2.later hG).cel]) rfl
    · refine kok hN fun u W ev ec ef E B hG hf => ?_
      exact k_cl rfl rfl (by simp [go_sem, ef, E 9 2 rfl rfl (hf 2 rfl)]) (cG.out W (tab_keep HT.out (nxt hB hG))) hG (fun _ _ => rfl)
  case htail =>
    intro u w' hG hP hD
    have f8 : u 1 = .agg #[.bool false, .string ⟨#[]⟩, .int .i64 0] := hP 1 (by decide)
    have f10 : u 3 = .agg #[.bool b2, .string s2, .int .i64 e2] := hP 3 (by decide)
    simp only [putAll, Act.put, List.setIfInBounds_toArray, List.set_cons_zero, List.set_cons_succ, List.length_cons, List.length_nil, Nat.reduceAdd, List.drop_succ_cons, List.drop_zero, f8, f10]
    have hBn := nxt hB hG
    replace X1 := X1.later hG
    replace X2 := X2.later hG
    replace X3 := X3.later hG
    have hne : w.heap.size + 1 ≠ w.heap.size := by omega
    have hne2 : w.heap.size + 2 ≠ w.heap.size := by omega
    have hne3 : w.heap.size + 2 ≠ w.heap.size + 1 := by omega
    have Y2 := Bx.far3 (i := 0) (j := 1) (k := 2) X2 hne (.bool false) (.string ⟨#[]⟩) (.int .i64 0)
    have Z1 := Bx.far3 (i := 0) (j := 1) (k := 2) (X1.set3 (.bool false) (.string ⟨#[]⟩) (.int .i64 0)) (Ne.symm hne) (.bool b2) (.string s2) (.int .i64 e2)
    have Z2 := Y2.set3 (.bool b2) (.string s2) (.int .i64 e2)
    have Z3 := Bx.far3 (i := 0) (j := 1) (k := 2) (Bx.far3 (i := 0) (j := 1) (k := 2) X3 hne2 (.bool false) (.string ⟨#[]⟩) (.int .i64 0)) hne3 (.bool b2) (.string s2) (.int .i64 e2)
    have hB2 := st3 (st3 hBn (Nat.le_refl _) (.bool false) (.string ⟨#[]⟩) (.int .i64 0)) (Nat.le_add_right _ 1) (.bool b2) (.string s2) (.int .i64 e2)
    obtain ⟨p1, p2, p5, p3, p4, p6⟩ := X1.three
    obtain ⟨q1, q2, q5, q3, q4, q6⟩ := Y2.three
    have HK := Lib.hid (And.intro Z1 (And.intro Z2 (And.intro Z3 hB2)))
    clear f8 f10 hP hD hG hB hBn X1 X2 X3 Y2 Z1 Z2 Z3 hB2 hne hne2 hne3
    go_upto_region 2 with (fail)
    obtain ⟨X1, X2, X3, hB⟩ := HK.out
    clear HK p1 p2 p5 p3 p4 p6 q1 q2 q5 q3 q4 q6
    generalize (((((w'.setCell ⟨w.heap.size, 0, none⟩ (.bool false)).setCell ⟨w.heap.size, 1, none⟩ (.string ⟨#[]⟩)).setCell ⟨w.heap.size, 2, none⟩ (.int .i64 0)).setCell ⟨w.heap.size + 1, 0, none⟩ (.bool b2)).setCell ⟨w.heap.size + 1, 1, none⟩ (.string s2)).setCell ⟨w.heap.size + 1, 2, none⟩ (.int .i64 e2) = w2 at *
    obtain ⟨p1, p2, p5, p3, p4, p6⟩ := X1.three
    obtain ⟨q1, q2, q5, q3, q4, q6⟩ := X2.three
    have l1 := X1.lt
    have l2 := X2.lt
    have l3 := X3.lt
    have X4 := Bx.new w2 104 #[.int .i64 e2, .bool false, .string ⟨#[]⟩, .bool false, .string ⟨#[]⟩]
    have HK := Lib.hid (And.intro (X1.alloc (.cells #[.int .i64 e2, .bool false, .string ⟨#[]⟩, .bool false, .string ⟨#[]⟩] 104)) (And.intro (X2.alloc (.cells #[.int .i64 e2, .bool false, .string ⟨#[]⟩, .bool false, .string ⟨#[]⟩] 104)) (And.intro (X3.alloc (.cells #[.int .i64 e2, .bool false, .string ⟨#[]⟩, .bool false, .string ⟨#[]⟩] 104)) (And.intro X4 (And.intro (nxtA hB (.cells #[.int .i64 e2, .bool false, .string ⟨#[]⟩, .bool false, .string ⟨#[]⟩] 104)) (And.intro l1 (And.intro l2 l3)))))))
    clear X1 X2 X3 X4 hB
    go_upto_region 8 with (fail)
    obtain ⟨X1, X2, X3, X4, hB, l1, l2, l3⟩ := HK.out
    clear HK p1 p2 p5 p3 p4 p6 q1 q2 q5 q3 q4 q6
    generalize w2.alloc (.cells #[.int .i64 e2, .bool false, .string ⟨#[]⟩, .bool false, .string ⟨#[]⟩] 104) = w3 at *
    generalize w2.heap.size = g6 at *
    refine wp_region_k [30, 31, 32, 33, 34, 35, 36, 37, 38] [.eq (.pointer (some ⟨g6, 0, none⟩)), .eq (.int .i64 e2), .eq (.agg #[.bool false, .string ⟨#[]⟩, .int .i64 0]), .eq (.agg #[.bool (neg X), .string (mag X)]), .eq (.pointer (some ⟨g6, 0, none⟩)), .eq (.int .i64 e2), .eq (.agg #[.bool b2, .string s2, .int .i64 e2]), .eq (.agg #[.bool (neg Y), .string (mag Y)]), .eq (.pointer (some ⟨g6, 1, none⟩))] 41 (by kernel_rfl) (by exact fun _ _ _ _ _ h => h) (by kernel_rfl) (by rfl) ?hop ?htail
    case hop =>
      intro A hA
      have hN : A.tmps.size = 41 := by rw [hA]; rfl
      have q2 : A.tmps.getD 2 undef = .pointer (some ⟨w.heap.size, 0, none⟩) := by rw [hA]; rfl
      have q3 : A.tmps.getD 3 undef = .pointer (some ⟨w.heap.size + 1, 0, none⟩) := by rw [hA]; rfl
      have q6 : A.tmps.getD 6 undef = .pointer (some ⟨g6, 0, none⟩) := by rw [hA]; rfl
      clear hA
      refine ⟨?_, ?_, ?_, ?_, ?_, ?_, ?_, ?_, ?_, trivial⟩
      · refine kok hN fun u W ev ec ef E B hG hf => ?_
        exact k_val _ rfl rfl hG (by simp [go_sem, B 6 rfl rfl q6]) rfl
      · refine kok hN fun u W ev ec ef E B hG hf => ?_
        exact k_val _ rfl rfl hG (by simp [go_sem, E 30 0 rfl rfl (hf 0 rfl), (X4.later hG).cel]) rfl
      · refine kok hN fun u W ev ec ef E B hG hf => ?_
        exact k_val _ rfl rfl hG (by simp [go_sem, B 2 rfl rfl q2, (X1.later hG).cel]) rfl
      · refine kok hN fun u W ev ec ef E B hG hf => ?_
        exact k_cl rfl rfl (by simp [go_sem, ef, E 31 1 rfl rfl (hf 1 rfl), E 32 2 rfl rfl (hf 2 rfl)]) (cU.out W (tab_keep HT.out (nxt hB hG))) hG (fun _ _ => rfl)
      · refine kok hN fun u W ev ec ef E B hG hf => ?_
        exact k_val _ rfl rfl hG (by simp [go_sem, B 6 rfl rfl q6]) rfl
      · refine kok hN fun u W ev ec ef E B hG hf => ?_
        exact k_val _ rfl rfl hG (by simp [go_sem, E 34 4 rfl rfl (hf 4 rfl), (X4.later hG).cel]) rfl
      · refine kok hN fun u W ev ec ef E B hG hf => ?_
        exact k_val _ rfl rfl hG (by simp [go_sem, B 3 rfl rfl q3, (X2.later hG).cel]) rfl
      · refine kok hN fun u W ev ec ef E B hG hf => ?_
        exact k_cl rfl rfl (by simp [go_sem, ef, E 35 5 rfl rfl (hf 5 rfl), E 36 6 rfl rfl (hf 6 rfl)]) (cV.out W (tab_keep HT.out (nxt hB hG))) hG (fun _ _ => rfl)
      · refine kok hN fun u W ev ec ef E B hG hf => ?_
        exact k_val _ rfl rfl hG (by simp [go_sem, B 6 rfl rfl q6]) rfl
    case htail =>
      intro u w4 hG hP hD
      have f33 : u 3 = .agg #[.bool (neg X), .string (mag X)] := hP 3 (by decide)
      have f37 : u 7 = .agg #[.bool (neg Y), .string (mag Y)] := hP 7 (by decide)
      have f38 : u 8 = .pointer (some ⟨g6, 1, none⟩) := hP 8 (by decide)
      simp only [putAll, Act.put, List.setIfInBounds_toArray, List.set_cons_zero, List.set_cons_succ, List.length_cons, List.length_nil, Nat.reduceAdd, List.drop_succ_cons, List.drop_zero, f33, f37, f38]
      have hBn := nxt hB hG
      replace X3 := X3.later hG
      replace X4 := X4.later hG
      have hg6 : w.heap.size ≤ g6 := Nat.le_of_lt l1
      have hne : w.heap.size + 2 ≠ g6 := Nat.ne_of_lt l3
      have Y4 := X4.set5a (.bool (neg X)) (.string (mag X))
      have Z4 := Y4.set5b (.bool (neg Y)) (.string (mag Y))
      have Z3 := Bx.far2 (i := 3) (j := 4) (Bx.far2 (i := 1) (j := 2) X3 hne (.bool (neg X)) (.string (mag X))) hne (.bool (neg Y)) (.string (mag Y))
      have hB2 := Lib.hid (st2' (st2' hBn hg6 1 2 (.bool (neg X)) (.string (mag X))) hg6 3 4 (.bool (neg Y)) (.string (mag Y)))
      have HZ := Lib.hid Z3
      obtain ⟨r1, r2, r3, r4, r5, r6, r7, r8, r9, r10⟩ := X4.five
      obtain ⟨t1, t2, t3, t4, t5, t6, t7, t8, t9, t10⟩ := Y4.five
      obtain ⟨v1, v2, v3, v4, v5, v6, v7, v8, v9, v10⟩ := Z4.five
      obtain ⟨x1, x2, x3, x4, x5, x6, x7, x8, x9, x10⟩ := Z3.five
      clear hP hD hG hB hBn X1 X2 X3 X4 Y4 Z4 Z3 hg6 hne l1 l2 l3 f33 f37 f38
      go_wp2_with fail
      exact bodyPost_ret (v := .agg #[.int .i64 e2, .bool (neg X), .string (mag X), .bool (neg Y), .string (mag Y)]) (by simp [results, Tryz.results100, go_sem, (HZ.out.set5 _ _ _ _ _).cel]) rfl ⟨rfl, st5 hB2.out (Nat.le_add_right _ 2) _ _ _ _ _⟩

set_option maxRecDepth 100000 in
set_option maxHeartbeats 1000000 in
theorem dLevel_B (s t : ByteArray) (b c : Bool) (e f : Int) (b1 : Bool) (s1 : ByteArray) (e1 : Int) (hm1 : ¬ s1.toList = []) (X Y : Int) (w : World) (hT : TabAt 0 Lib.deBruijn64tab w)
    (cF : Hid (∀ W : World, TabAt 0 Lib.deBruijn64tab W → Calls Tryz.prog 79 #[.agg #[.bool b, .string s, .int .i64 e]] W fun r w' => r = .returned (.agg #[.bool b1, .string s1, .int .i64 e1]) ∧ Below W.heap.size W w'))
    (cG : Hid (∀ W : World, TabAt 0 Lib.deBruijn64tab W → Calls Tryz.prog 79 #[.agg #[.bool c, .string t, .int .i64 f]] W fun r w' => r = .returned (.agg #[.bool false, .string ⟨#[]⟩, .int .i64 0]) ∧ Below W.heap.size W w'))
    (cU : Hid (∀ W : World, TabAt 0 Lib.deBruijn64tab W → Calls Tryz.prog 135 #[.int .i64 e1, .agg #[.bool b1, .string s1, .int .i64 e1]] W fun r w' => r = .returned (.agg #[.bool (neg X), .string (mag X)]) ∧ Below W.heap.size W w'))
    (cV : Hid (∀ W : World, TabAt 0 Lib.deBruijn64tab W → Calls Tryz.prog 135 #[.int .i64 e1, .agg #[.bool false, .string ⟨#[]⟩, .int .i64 0]] W fun r w' => r = .returned (.agg #[.bool (neg Y), .string (mag Y)]) ∧ Below W.heap.size W w'))
    :
    Calls Tryz.prog 100 #[.agg #[.bool b, .string s, .int .i64 e], .agg #[.bool c, .string t, .int .i64 f]] w fun r w' => r = .returned (.agg #[.int .i64 e1, .bool (neg X), .string (mag X), .bool (neg Y), .string (mag Y)]) ∧ Below w.heap.size w w' := by
  have HT := Lib.hid hT
  clear hT
  go_enter Tryz.func100, Tryz.ntmps100
  go_upto_region 1 with (fail)
  have X1 := ((Bx.new w 25 #[.bool b, .string s, .int .i64 e]).alloc (.cells #[.bool c, .string t, .int .i64 f] 25)).alloc (.cells #[.int .i64 0, .bool false, .string ⟨#[]⟩, .bool false, .string ⟨#[]⟩] 104)
  have X2 := (Bx.at1 w (.cells #[.bool b, .string s, .int .i64 e] 25) 25 #[.bool c, .string t, .int .i64 f]).alloc (.cells #[.int .i64 0, .bool false, .string ⟨#[]⟩, .bool false, .string ⟨#[]⟩] 104)
  have X3 := Bx.at2 w (.cells #[.bool b, .string s, .int .i64 e] 25) (.cells #[.bool c, .string t, .int .i64 f] 25) 104 #[.int .i64 0, .bool false, .string ⟨#[]⟩, .bool false, .string ⟨#[]⟩]
  have hB := b3 w (.cells #[.bool b, .string s, .int .i64 e] 25) (.cells #[.bool c, .string t, .int .i64 f] 25) (.cells #[.int .i64 0, .bool false, .string ⟨#[]⟩, .bool false, .string ⟨#[]⟩] 104)
  generalize ((w.alloc (.cells #[.bool b, .string s, .int .i64 e] 25)).alloc (.cells #[.bool c, .string t, .int .i64 f] 25)).alloc (.cells #[.int .i64 0, .bool false, .string ⟨#[]⟩, .bool false, .string ⟨#[]⟩] 104) = w0 at *
  have hl0 := X1.lt
  have hl1 := X2.lt
  have hl2 := X3.lt
  refine wp_region_k [7, 8, 9, 10] [.eq (.agg #[.bool b, .string s, .int .i64 e]), .eq (.agg #[.bool b1, .string s1, .int .i64 e1]), .eq (.agg #[.bool c, .string t, .int .i64 f]), .eq (.agg #[.bool false, .string ⟨#[]⟩, .int .i64 0])] 41 (by kernel_rfl) (by exact fun _ _ _ _ _ h => h) (by kernel_rfl) (by rfl) ?hop ?htail
  case hop =>
    intro A hA
    have hN : A.tmps.size = 41 := by rw [hA]; rfl
    have q2 : A.tmps.getD 2 undef = .pointer (some ⟨w.heap.size, 0, none⟩) := by rw [hA]; rfl
    have q3 : A.tmps.getD 3 undef = .pointer (some ⟨w.heap.size + 1, 0, none⟩) := by rw [hA]; rfl
    clear hA
    refine ⟨?_, ?_, ?_, ?_, trivial⟩
    · refine kok hN fun u W ev ec ef E B hG hf => ?_
      exact k_val _ rfl rfl hG (by simp [go_sem, B 2 rfl rfl q2, (X1.later hG).cel]) rfl
    · refine kok hN fun u W ev ec ef E B hG hf => ?_
      exact k_cl rfl rfl (by simp [go_sem, ef, E 7 0 rfl rfl (hf 0 rfl)]) (cF.out W (tab_keep HT.out (nxt hB hG))) hG (fun _ _ => rfl)
    · refine kok hN fun u W ev ec ef E B hG hf => ?_
      exact k_val _ rfl rfl hG (by simp [go_sem, B 3 rfl rfl q3, (X2.later hG).cel]) rfl
    · refine kok hN fun u W ev ec ef E B hG hf => ?_
      exact k_cl rfl rfl (by simp [go_sem, ef, E 9 2 rfl rfl (hf 2 rfl)]) (cG.out W (tab_keep HT.out (nxt hB hG))) hG (fun _ _ => rfl)
  case htail =>
    intro u w' hG hP hD
    have f8 : u 1 = .agg #[.bool b1, .string s1, .int .i64 e1] := hP 1 (by decide)
    have f10 : u 3 = .agg #[.bool false, .string ⟨#[]⟩, .int .i64 0] := hP 3 (by decide)
    simp only [putAll, Act.put, List.setIfInBounds_toArray, List.set_cons_zero, List.set_cons_succ, List.length_cons, List.length_nil, Nat.reduceAdd, List.drop_succ_cons, List.drop_zero, f8, f10]
    have hBn := nxt hB hG
    replace X1 := X1.later hG
    replace X2 := X2.later hG
    replace X3 := X3.later hG
    have hne : w.heap.size + 1 ≠ w.heap.size := by omega
    have hne2 : w.heap.size + 2 ≠ w.heap.size := by omega
    have hne3 : w.heap.size + 2 ≠ w.heap.size + 1 := by omega
    have Y2 := Bx.far3 (i := 0) (j := 1) (k := 2) X2 hne (.bool b1) (.string s1) (.int .i64 e1)
    have Z1 := Bx.far3 (i := 0) (j := 1) (k := 2) (X1.set3 (.bool b1) (.string s1) (.int .i64 e1)) (Ne.symm hne) (.bool false) (.string ⟨#[]⟩) (.int .i64 0)
    have Z2 := Y2.set3 (.bool false) (.string ⟨#[]⟩) (.int .i64 0)
    have Z3 := Bx.far3 (i := 0) (j := 1) (k := 2) (Bx.far3 (i := 0) (j := 1) (k := 2) X3 hne2 (.bool b1) (.string s1) (.int .i64 e1)) hne3 (.bool false) (.string ⟨#[]⟩) (.int .i64 0)
    have hB2 := st3 (st3 hBn (Nat.le_refl _) (.bool b1) (.string s1) (.int .i64 e1)) (Nat.le_add_right _ 1) (.bool false) (.string ⟨#[]⟩) (.int .i64 0)
    obtain ⟨p1, p2, p5, p3, p4, p6⟩ := X1.three
    obtain ⟨q1, q2, q5, q3, q4, q6⟩ := Y2.three
    have HK := Lib.hid (And.intro Z1 (And.intro Z2 (And.intro Z3 hB2)))
    clear f8 f10 hP hD hG hB hBn X1 X2 X3 Y2 Z1 Z2 Z3 hB2 hne hne2 hne3
    go_upto_region 2 with (fail)
    obtain ⟨X1, X2, X3, hB⟩ := HK.out
    clear HK p1 p2 p5 p3 p4 p6 q1 q2 q5 q3 q4 q6
    generalize (((((w'.setCell ⟨w.heap.size, 0, none⟩ (.bool b1)).setCell ⟨w.heap.size, 1, none⟩ (.string s1)).setCell ⟨w.heap.size, 2, none⟩ (.int .i64 e1)).setCell ⟨w.heap.size + 1, 0, none⟩ (.bool false)).setCell ⟨w.heap.size + 1, 1, none⟩ (.string ⟨#[]⟩)).setCell ⟨w.heap.size + 1, 2, none⟩ (.int .i64 0) = w2 at *
    obtain ⟨p1, p2, p5, p3, p4, p6⟩ := X1.three
    obtain ⟨q1, q2, q5, q3, q4, q6⟩ := X2.three
    have l1 := X1.lt
    have l2 := X2.lt
    have l3 := X3.lt
    have X4 := Bx.new w2 104 #[.int .i64 e1, .bool false, .string ⟨#[]⟩, .bool false, .string ⟨#[]⟩]
    have HK := Lib.hid (And.intro (X1.alloc (.cells #[.int .i64 e1, .bool false, .string ⟨#[]⟩, .bool false, .string ⟨#[]⟩] 104)) (And.intro (X2.alloc (.cells #[.int .i64 e1, .bool false, .string ⟨#[]⟩, .bool false, .string ⟨#[]⟩] 104)) (And.intro (X3.alloc (.cells #[.int .i64 e1, .bool false, .string ⟨#[]⟩, .bool false, .string ⟨#[]⟩] 104)) (And.intro X4 (And.intro (nxtA hB (.cells #[.int .i64 e1, .bool false, .string ⟨#[]⟩, .bool false, .string ⟨#[]⟩] 104)) (And.intro l1 (And.intro l2 l3)))))))
    clear X1 X2 X3 X4 hB
    go_upto_region 8 with (fail)
    obtain ⟨X1, X2, X3, X4, hB, l1, l2, l3⟩ := HK.out
    clear HK p1 p2 p5 p3 p4 p6 q1 q2 q5 q3 q4 q6
    generalize w2.alloc (.cells #[.int .i64 e1, .bool false, .string ⟨#[]⟩, .bool false, .string ⟨#[]⟩] 104) = w3 at *
    generalize w2.heap.size = g6 at *
    refine wp_region_k [30, 31, 32, 33, 34, 35, 36, 37, 38] [.eq (.pointer (some ⟨g6, 0, none⟩)), .eq (.int .i64 e1), .eq (.agg #[.bool b1, .string s1, .int .i64 e1]), .eq (.agg #[.bool (neg X), .string (mag X)]), .eq (.pointer (some ⟨g6, 0, none⟩)), .eq (.int .i64 e1), .eq (.agg #[.bool false, .string ⟨#[]⟩, .int .i64 0]), .eq (.agg #[.bool (neg Y), .string (mag Y)]), .eq (.pointer (some ⟨g6, 1, none⟩))] 41 (by kernel_rfl) (by exact fun _ _ _ _ _ h => h) (by kernel_rfl) (by rfl) ?hop ?htail
    case hop =>
      intro A hA
      have hN : A.tmps.size = 41 := by rw [hA]; rfl
      have q2 : A.tmps.getD 2 undef = .pointer (some ⟨w.heap.size, 0, none⟩) := by rw [hA]; rfl
      have q3 : A.tmps.getD 3 undef = .pointer (some ⟨w.heap.size + 1, 0, none⟩) := by rw [hA]; rfl
      have q6 : A.tmps.getD 6 undef = .pointer (some ⟨g6, 0, none⟩) := by rw [hA]; rfl
      clear hA
      refine ⟨?_, ?_, ?_, ?_, ?_, ?_, ?_, ?_, ?_, trivial⟩
      · refine kok hN fun u W ev ec ef E B hG hf => ?_
        exact k_val _ rfl rfl hG (by simp [go_sem, B 6 rfl rfl q6]) rfl
      · refine kok hN fun u W ev ec ef E B hG hf => ?_
        exact k_val _ rfl rfl hG (by simp [go_sem, E 30 0 rfl rfl (hf 0 rfl), (X4.later hG).cel]) rfl
      · refine kok hN fun u W ev ec ef E B hG hf => ?_
        exact k_val _ rfl rfl hG (by simp [go_sem, B 2 rfl rfl q2, (X1.later hG).cel]) rfl
      · refine kok hN fun u W ev ec ef E B hG hf => ?_
        exact k_cl rfl rfl (by simp [go_sem, ef, E 31 1 rfl rfl (hf 1 rfl), E 32 2 rfl rfl (hf 2 rfl)]) (cU.out W (tab_keep HT.out (nxt hB hG))) hG (fun _ _ => rfl)
      · refine kok hN fun u W ev ec ef E B hG hf => ?_
        exact k_val _ rfl rfl hG (by simp [go_sem, B 6 rfl rfl q6]) rfl
      · refine kok hN fun u W ev ec ef E B hG hf => ?_
        exact k_val _ rfl rfl hG (by simp [go_sem, E 34 4 rfl rfl (hf 4 rfl), (X4.later hG).cel]) rfl
      · refine kok hN fun u W ev ec ef E B hG hf => ?_
        exact k_val _ rfl rfl hG (by simp [go_sem, B 3 rfl rfl q3, (X2.later hG).cel]) rfl
      · refine kok hN fun u W ev ec ef E B hG hf => ?_
        exact k_cl rfl rfl (by simp [go_sem, ef, E 35 5 rfl rfl (hf 5 rfl), E 36 6 rfl rfl (hf 6 rfl)]) (cV.out W (tab_keep HT.out (nxt hB hG))) hG (fun _ _ => rfl)
      · refine kok hN fun u W ev ec ef E B hG hf => ?_
        exact k_val _ rfl rfl hG (by simp [go_sem, B 6 rfl rfl q6]) rfl
    case htail =>
      intro u w4 hG hP hD
      have f33 : u 3 = .agg #[.bool (neg X), .string (mag X)] := hP 3 (by decide)
      have f37 : u 7 = .agg #[.bool (neg Y), .string (mag Y)] := hP 7 (by decide)
      have f38 : u 8 = .pointer (some ⟨g6, 1, none⟩) := hP 8 (by decide)
      simp only [putAll, Act.put, List.setIfInBounds_toArray, List.set_cons_zero, List.set_cons_succ, List.length_cons, List.length_nil, Nat.reduceAdd, List.drop_succ_cons, List.drop_zero, f33, f37, f38]
      have hBn := nxt hB hG
      replace X3 := X3.later hG
      replace X4 := X4.later hG
      have hg6 : w.heap.size ≤ g6 := Nat.le_of_lt l1
      have hne : w.heap.size + 2 ≠ g6 := Nat.ne_of_lt l3
      have Y4 := X4.set5a (.bool (neg X)) (.string (mag X))
      have Z4 := Y4.set5b (.bool (neg Y)) (.string (mag Y))
      have Z3 := Bx.far2 (i := 3) (j := 4) (Bx.far2 (i := 1) (j := 2) X3 hne (.bool (neg X)) (.string (mag X))) hne (.bool (neg Y)) (.string (mag Y))
      have hB2 := Lib.hid (st2' (st2' hBn hg6 1 2 (.bool (neg X)) (.string (mag X))) hg6 3 4 (.bool (neg Y)) (.string (mag Y)))
      have HZ := Lib.hid Z3
      obtain ⟨r1, r2, r3, r4, r5, r6, r7, r8, r9, r10⟩ := X4.five
      obtain ⟨t1, t2, t3, t4, t5, t6, t7, t8, t9, t10⟩ := Y4.five
      obtain ⟨v1, v2, v3, v4, v5, v6, v7, v8, v9, v10⟩ := Z4.five
      obtain ⟨x1, x2, x3, x4, x5, x6, x7, x8, x9, x10⟩ := Z3.five
      clear hP hD hG hB hBn X1 X2 X3 X4 Y4 Z4 Z3 hg6 hne l1 l2 l3 f33 f37 f38
      go_wp2_with fail
      exact bodyPost_ret (v := .agg #[.int .i64 e1, .bool (neg X), .string (mag X), .bool (neg Y), .string (mag Y)]) (by simp [results, Tryz.results100, go_sem, (HZ.out.set5 _ _ _ _ _).cel]) rfl ⟨rfl, st5 hB2.out (Nat.le_add_right _ 2) _ _ _ _ _⟩

set_option maxRecDepth 100000 in
set_option maxHeartbeats 1000000 in
theorem dLevel_C (s t : ByteArray) (b c : Bool) (e f : Int) (b1 : Bool) (s1 : ByteArray) (e1 : Int) (hm1 : ¬ s1.toList = []) (b2 : Bool) (s2 : ByteArray) (e2 k : Int) (hm2 : ¬ s2.toList = []) (hk : min e1 e2 = k) (X Y : Int) (w : World) (hT : TabAt 0 Lib.deBruijn64tab w)
    (cF : Hid (∀ W : World, TabAt 0 Lib.deBruijn64tab W → Calls Tryz.prog 79 #[.agg #[.bool b, .string s, .int .i64 e]] W fun r w' => r = .returned (.agg #[.bool b1, .string s1, .int .i64 e1]) ∧ Below W.heap.size W w'))
    (cG : Hid (∀ W : World, TabAt 0 Lib.deBruijn64tab W → Calls Tryz.prog 79 #[.agg #[.bool c, .string t, .int .i64 f]] W fun r w' => r = .returned (.agg #[.bool b2, .string s2, .int .i64 e2]) ∧ Below W.heap.size W w'))
    (cU : Hid (∀ W : World, TabAt 0 Lib.deBruijn64tab W → Calls Tryz.prog 135 #[.int .i64 k, .agg #[.bool b1, .string s1, .int .i64 e1]] W fun r w' => r = .returned (.agg #[.bool (neg X), .string (mag X)]) ∧ Below W.heap.size W w'))
    (cV : Hid (∀ W : World, TabAt 0 Lib.deBruijn64tab W → Calls Tryz.prog 135 #[.int .i64 k, .agg #[.bool b2, .string s2, .int .i64 e2]] W fun r w' => r = .returned (.agg #[.bool (neg Y), .string (mag Y)]) ∧ Below W.heap.size W w'))
    :
    Calls Tryz.prog 100 #[.agg #[.bool b, .string s, .int .i64 e], .agg #[.bool c, .string t, .int .i64 f]] w fun r w' => r = .returned (.agg #[.int .i64 k, .bool (neg X), .string (mag X), .bool (neg Y), .string (mag Y)]) ∧ Below w.heap.size w w' := by
  have HT := Lib.hid hT
  clear hT
  go_enter Tryz.func100, Tryz.ntmps100
  go_upto_region 1 with (fail)
  have X1 := ((Bx.new w 25 #[.bool b, .string s, .int .i64 e]).alloc (.cells #[.bool c, .string t, .int .i64 f] 25)).alloc (.cells #[.int .i64 0, .bool false, .string ⟨#[]⟩, .bool false, .string ⟨#[]⟩] 104)
  have X2 := (Bx.at1 w (.cells #[.bool b, .string s, .int .i64 e] 25) 25 #[.bool c, .string t, .int .i64 f]).alloc (.cells #[.int .i64 0, .bool false, .string ⟨#[]⟩, .bool false, .string ⟨#[]⟩] 104)
  have X3 := Bx.at2 w (.cells #[.bool b, .string s, .int .i64 e] 25) (.cells #[.bool c, .string t, .int .i64 f] 25) 104 #[.int .i64 0, .bool false, .string ⟨#[]⟩, .bool false, .string ⟨#[]⟩]
  have hB := b3 w (.cells #[.bool b, .string s, .int .i64 e] 25) (.cells #[.bool c, .string t, .int .i64 f] 25) (.cells #[.int .i64 0, .bool false, .string ⟨#[]⟩, .bool false, .string ⟨#[]⟩] 104)
  generalize ((w.alloc (.cells #[.bool b, .string s, .int .i64 e] 25)).alloc (.cells #[.bool c, .string t, .int .i64 f] 25)).alloc (.cells #[.int .i64 0, .bool false, .string ⟨#[]⟩, .bool false, .string ⟨#[]⟩] 104) = w0 at *
  have hl0 := X1.lt
  have hl1 := X2.lt
  have hl2 := X3.lt
  refine wp_region_k [7, 8, 9, 10] [.eq (.agg #[.bool b, .string s, .int .i64 e]), .eq (.agg #[.bool b1, .string s1, .int .i64 e1]), .eq (.agg #[.bool c, .string t, .int .i64 f]), .eq (.agg #[.bool b2, .string s2, .int .i64 e2])] 41 (by kernel_rfl) (by exact fun _ _ _ _ _ h => h) (by kernel_rfl) (by rfl) ?hop ?htail
  case hop =>
    intro A hA
    have hN : A.tmps.size = 41 := by rw [hA]; rfl
    have q2 : A.tmps.getD 2 undef = .pointer (some ⟨w.heap.size, 0, none⟩) := by rw [hA]; rfl
    have q3 : A.tmps.getD 3 undef = .pointer (some ⟨w.heap.size + 1, 0, none⟩) := by rw [hA]; rfl
    clear hA
    refine ⟨?_, ?_, ?_, ?_, trivial⟩
    · refine kok hN fun u W ev ec ef E B hG hf => ?_
      exact k_val _ rfl rfl hG (by simp [go_sem, B 2 rfl rfl q2, (X1.later hG).cel]) rfl
    · refine kok hN fun u W ev ec ef E B hG hf => ?_
      exact k_cl rfl rfl (by simp [go_sem, ef, E 7 0 rfl rfl (hf 0 rfl)]) (cF.out W (tab_keep HT.out (nxt hB hG))) hG (fun _ _ => rfl)
    · refine kok hN fun u W ev ec ef E B hG hf => ?_
      exact k_val _ rfl rfl hG (by simp [go_sem, B 3 rfl rfl q3, (X2.later hG).cel]) rfl
    · refine kok hN fun u W ev ec ef E B hG hf => ?_
      exact k_cl rfl rfl (by simp [go_sem, ef, E 9 2 rfl rfl (hf 2 rfl)]) (cG.out W (tab_keep HT.out (nxt hB hG))) hG (fun _ _ => rfl)
  case htail =>
    intro u w' hG hP hD
    have f8 : u 1 = .agg #[.bool b1, .string s1, .int .i64 e1] := hP 1 (by decide)
    have f10 : u 3 = .agg #[.bool b2, .string s2, .int .i64 e2] := hP 3 (by decide)
    simp only [putAll, Act.put, List.setIfInBounds_toArray, List.set_cons_zero, List.set_cons_succ, List.length_cons, List.length_nil, Nat.reduceAdd, List.drop_succ_cons, List.drop_zero, f8, f10]
    have hBn := nxt hB hG
    replace X1 := X1.later hG
    replace X2 := X2.later hG
    replace X3 := X3.later hG
    have hne : w.heap.size + 1 ≠ w.heap.size := by omega
    have hne2 : w.heap.size + 2 ≠ w.heap.size := by omega
    have hne3 : w.heap.size + 2 ≠ w.heap.size + 1 := by omega
    have Y2 := Bx.far3 (i := 0) (j := 1) (k := 2) X2 hne (.bool b1) (.string s1) (.int .i64 e1)
    have Z1 := Bx.far3 (i := 0) (j := 1) (k := 2) (X1.set3 (.bool b1) (.string s1) (.int .i64 e1)) (Ne.symm hne) (.bool b2) (.string s2) (.int .i64 e2)
    have Z2 := Y2.set3 (.bool b2) (.string s2) (.int .i64 e2)
    have Z3 := Bx.far3 (i := 0) (j := 1) (k := 2) (Bx.far3 (i := 0) (j := 1) (k := 2) X3 hne2 (.bool b1) (.string s1) (.int .i64 e1)) hne3 (.bool b2) (.string s2) (.int .i64 e2)
    have hB2 := st3 (st3 hBn (Nat.le_refl _) (.bool b1) (.string s1) (.int .i64 e1)) (Nat.le_add_right _ 1) (.bool b2) (.string s2) (.int .i64 e2)
    obtain ⟨p1, p2, p5, p3, p4, p6⟩ := X1.three
    obtain ⟨q1, q2, q5, q3, q4, q6⟩ := Y2.three
    have HK := Lib.hid (And.intro Z1 (And.intro Z2 (And.intro Z3 hB2)))
    clear f8 f10 hP hD hG hB hBn X1 X2 X3 Y2 Z1 Z2 Z3 hB2 hne hne2 hne3
    go_upto_region 2 with (fail)
    obtain ⟨X1, X2, X3, hB⟩ := HK.out
    clear HK p1 p2 p5 p3 p4 p6 q1 q2 q5 q3 q4 q6
    generalize (((((w'.setCell ⟨w.heap.size, 0, none⟩ (.bool b1)).setCell ⟨w.heap.size, 1, none⟩ (.string s1)).setCell ⟨w.heap.size, 2, none⟩ (.int .i64 e1)).setCell ⟨w.heap.size + 1, 0, none⟩ (.bool b2)).setCell ⟨w.heap.size + 1, 1, none⟩ (.string s2)).setCell ⟨w.heap.size + 1, 2, none⟩ (.int .i64 e2) = w2 at *
    obtain ⟨p1, p2, p5, p3, p4, p6⟩ := X1.three
    obtain ⟨q1, q2, q5, q3, q4, q6⟩ := X2.three
    have l1 := X1.lt
    have l2 := X2.lt
    have l3 := X3.lt
    have X4 := Bx.new w2 104 #[.int .i64 k, .bool false, .string ⟨#[]⟩, .bool false, .string ⟨#[]⟩]
    have HK := Lib.hid (And.intro (X1.alloc (.cells #[.int .i64 k, .bool false, .string ⟨#[]⟩, .bool false, .string ⟨#[]⟩] 104)) (And.intro (X2.alloc (.cells #[.int .i64 k, .bool false, .string ⟨#[]⟩, .bool false, .string ⟨#[]⟩] 104)) (And.intro (X3.alloc (.cells #[.int .i64 k, .bool false, .string ⟨#[]⟩, .bool false, .string ⟨#[]⟩] 104)) (And.intro X4 (And.intro (nxtA hB (.cells #[.int .i64 k, .bool false, .string ⟨#[]⟩, .bool false, .string ⟨#[]⟩] 104)) (And.intro l1 (And.intro l2 l3)))))))
    clear X1 X2 X3 X4 hB
    go_upto_region 8 with (fail)
    obtain ⟨X1, X2, X3, X4, hB, l1, l2, l3⟩ := HK.out
    clear HK p1 p2 p5 p3 p4 p6 q1 q2 q5 q3 q4 q6
    generalize w2.alloc (.cells #[.int .i64 k, .bool false, .string ⟨#[]⟩, .bool false, .string ⟨#[]⟩] 104) = w3 at *
    generalize w2.heap.size = g6 at *
    refine wp_region_k [30, 31, 32, 33, 34, 35, 36, 37, 38] [.eq (.pointer (some ⟨g6, 0, none⟩)), .eq (.int .i64 k), .eq (.agg #[.bool b1, .string s1, .int .i64 e1]), .eq (.agg #[.bool (neg X), .string (mag X)]), .eq (.pointer (some ⟨g6, 0, none⟩)), .eq (.int .i64 k), .eq (.agg #[.bool b2, .string s2, .int .i64 e2]), .eq (.agg #[.bool (neg Y), .string (mag Y)]), .eq (.pointer (some ⟨g6, 1, none⟩))] 41 (by kernel_rfl) (by exact fun _ _ _ _ _ h => h) (by kernel_rfl) (by rfl) ?hop ?htail
    case hop =>
      intro A hA
      have hN : A.tmps.size = 41 := by rw [hA]; rfl
      have q2 : A.tmps.getD 2 undef = .pointer (some ⟨w.heap.size, 0, none⟩) := by rw [hA]; rfl
      have q3 : A.tmps.getD 3 undef = .pointer (some ⟨w.heap.size + 1, 0, none⟩) := by rw [hA]; rfl
      have q6 : A.tmps.getD 6 undef = .pointer (some ⟨g6, 0, none⟩) := by rw [hA]; rfl
      clear hA
      refine ⟨?_, ?_, ?_, ?_, ?_, ?_, ?_, ?_, ?_, trivial⟩
      · refine kok hN fun u W ev ec ef E B hG hf => ?_
        exact k_val _ rfl rfl hG (by simp [go_sem, B 6 rfl rfl q6]) rfl
      · refine kok hN fun u W ev ec ef E B hG hf => ?_
        exact k_val _ rfl rfl hG (by simp [go_sem, E 30 0 rfl rfl (hf 0 rfl), (X4.later hG).cel]) rfl
      · refine kok hN fun u W ev ec ef E B hG hf => ?_
        exact k_val _ rfl rfl hG (by simp [go_sem, B 2 rfl rfl q2, (X1.later hG).cel]) rfl
      · refine kok hN fun u W ev ec ef E B hG hf => ?_
        exact k_cl rfl rfl (by simp [go_sem, ef, E 31 1 rfl rfl (hf 1 rfl), E 32 2 rfl rfl (hf 2 rfl)]) (cU.out W (tab_keep HT.out (nxt hB hG))) hG (fun _ _ => rfl)
      · refine kok hN fun u W ev ec ef E B hG hf => ?_
        exact k_val _ rfl rfl hG (by simp [go_sem, B 6 rfl rfl q6]) rfl
      · refine kok hN fun u W ev ec ef E B hG hf => ?_
        exact k_val _ rfl rfl hG (by simp [go_sem, E 34 4 rfl rfl (hf 4 rfl), (X4.later hG).cel]) rfl
      · refine kok hN fun u W ev ec ef E B hG hf => ?_
        exact k_val _ rfl rfl hG (by simp [go_sem, B 3 rfl rfl q3, (X2.later hG).cel]) rfl
      · refine kok hN fun u W ev ec ef E B hG hf => ?_
        exact k_cl rfl rfl (by simp [go_sem, ef, E 35 5 rfl rfl (hf 5 rfl), E 36 6 rfl rfl (hf 6 rfl)]) (cV.out W (tab_keep HT.out (nxt hB hG))) hG (fun _ _ => rfl)
      · refine kok hN fun u W ev ec ef E B hG hf => ?_
        exact k_val _ rfl rfl hG (by simp [go_sem, B 6 rfl rfl q6]) rfl
    case htail =>
      intro u w4 hG hP hD
      have f33 : u 3 = .agg #[.bool (neg X), .string (mag X)] := hP 3 (by decide)
      have f37 : u 7 = .agg #[.bool (neg Y), .string (mag Y)] := hP 7 (by decide)
      have f38 : u 8 = .pointer (some ⟨g6, 1, none⟩) := hP 8 (by decide)
      simp only [putAll, Act.put, List.setIfInBounds_toArray, List.set_cons_zero, List.set_cons_succ, List.length_cons, List.length_nil, Nat.reduceAdd, List.drop_succ_cons, List.drop_zero, f33, f37, f38]
      have hBn := nxt hB hG
      replace X3 := X3.later hG
      replace X4 := X4.later hG
      have hg6 : w.heap.size ≤ g6 := Nat.le_of_lt l1
      have hne : w.heap.size + 2 ≠ g6 := Nat.ne_of_lt l3
      have Y4 := X4.set5a (.bool (neg X)) (.string (mag X))
      have Z4 := Y4.set5b (.bool (neg Y)) (.string (mag Y))
      have Z3 := Bx.far2 (i := 3) (j := 4) (Bx.far2 (i := 1) (j := 2) X3 hne (.bool (neg X)) (.string (mag X))) hne (.bool (neg Y)) (.string (mag Y))
      have hB2 := Lib.hid (st2' (st2' hBn hg6 1 2 (.bool (neg X)) (.string (mag X))) hg6 3 4 (.bool (neg Y)) (.string (mag Y)))
      have HZ := Lib.hid Z3
      obtain ⟨r1, r2, r3, r4, r5, r6, r7, r8, r9, r10⟩ := X4.five
      obtain ⟨t1, t2, t3, t4, t5, t6, t7, t8, t9, t10⟩ := Y4.five
      obtain ⟨v1, v2, v3, v4, v5, v6, v7, v8, v9, v10⟩ := Z4.five
      obtain ⟨x1, x2, x3, x4, x5, x6, x7, x8, x9, x10⟩ := Z3.five
      clear hP hD hG hB hBn X1 X2 X3 X4 Y4 Z4 Z3 hg6 hne l1 l2 l3 f33 f37 f38
      go_wp2_with fail
      exact bodyPost_ret (v := .agg #[.int .i64 k, .bool (neg X), .string (mag X), .bool (neg Y), .string (mag Y)]) (by simp [results, Tryz.results100, go_sem, (HZ.out.set5 _ _ _ _ _).cel]) rfl ⟨rfl, st5 hB2.out (Nat.le_add_right _ 2) _ _ _ _ _⟩

end Go.Proofs.YtchfglbkiebfpaaGreatDoor

namespace Go.Proofs.YtchfglbkiebfpaaGreatDoor
open Go.RowKit

/-- These cells are this number; not too long, not too far. -/
structure ND (b : Bool) (s : ByteArray) (e : Int) (x : Dyadic) : Prop where
  val : dy (ival b (sval s)) e = x
  size : s.size ≤ 1048576
  lo : -1073741824 ≤ e
  hi : e ≤ 1073741824
theorem nd_db {L T : Nat} {x : Dyadic} (h : DB L T x) (hLT : L + T ≤ 4000000) : ND (neg (dm x)) (mag (dm x)) (de x) x := by
  obtain ⟨h1, h2, _⟩ := db_form h
  have h4 := db_size h
  exact ⟨by rw [ival_mk, dy_dm], by omega, by omega, by omega⟩
theorem nd_form {b : Bool} {s : ByteArray} {e : Int} {x : Dyadic} (h : ND b s e x) : (mag (dm x)).size ≤ 1048576 ∧ -1073741824 ≤ de x ∧ de x ≤ 1090519040 := by
  by_cases hz : ival b (sval s) = 0
  · have e1 := h.val
    rw [hz, dy_zero] at e1
    subst e1
    exact ⟨by show (mag 0).size ≤ _; rw [mag_zero]; exact Nat.zero_le _, by decide, by decide⟩
  · obtain ⟨h1, h2⟩ := dm_dy e hz
    rw [h.val, ival_natAbs] at h1 h2
    have h3 := tz_size (s := s) (fun h0 => hz (by rw [h0, ival_zero]))
    have h4 := h.size
    have h5 := h.lo
    have h6 := h.hi
    refine ⟨?_, by omega, by omega⟩
    rw [h1, mag_size]
    refine Nat.le_trans (bsz_natAbs_le (Int.natAbs_ediv_le_natAbs _ _)) (Nat.le_trans (bsz_ival b s) h4)
theorem mag_some {x : Dyadic} (h : x ≠ 0) : ¬ (mag (dm x)).toList = [] := fun h1 => h (dm_zero.1 (mag_empty.1 h1))
theorem dy_level (x : Dyadic) {k : Int} (h : k ≤ de x) : dy (shiftI (dm x) (de x - k)) k = x := by
  unfold shiftI
  rw [if_pos (by omega), dy_shl]
  have e : k + ((de x - k).toNat : Int) = de x := by omega
  rw [e, dy_dm]
theorem level_bsz {x : Dyadic} {k : Int} (h : k ≤ de x) (hs : (mag (dm x)).size ≤ 1048576) (hk : de x - k ≤ 2164260864) : bsz (shiftI (dm x) (de x - k)) ≤ 300000000 := by
  unfold shiftI
  rw [if_pos (by omega)]
  rw [mag_size] at hs
  exact Nat.le_trans (bsz_shl_le hs) (by omega)
theorem bsz_zero : bsz 0 = 0 := rfl

theorem on_ex {b : Bool} {s : ByteArray} {x : Dyadic} {e k : Int} (hv : ival b (sval s) = dm x) (he : e = de x) (hs : s.size ≤ 1048576) (h1 : -9223372036854775808 ≤ e - k) (h2 : e - k ≤ 68719476736) :
    Hid (∀ W : World, TabAt 0 Lib.deBruijn64tab W → Calls Tryz.prog 135 #[.int .i64 k, .agg #[.bool b, .string s, .int .i64 e]] W fun r w' => r = .returned (.agg #[.bool (neg (shiftI (dm x) (de x - k))), .string (mag (shiftI (dm x) (de x - k)))]) ∧ Below W.heap.size W w') := by
  have h := Lib.hid (fun W (hT : TabAt 0 Lib.deBruijn64tab W) => dOn_any s b e k W (by omega) h1 h2 hT)
  rw [hv, he] at h
  rw [he]
  exact h
theorem dLevel_ex {b c : Bool} {s t : ByteArray} {e f : Int} {x y : Dyadic} (n1 : ND b s e x) (n2 : ND c t f y) :
    ∃ k X Y : Int, dy X k = x ∧ dy Y k = y ∧ bsz X ≤ 300000000 ∧ bsz Y ≤ 300000000 ∧ -2147483648 ≤ k ∧ k ≤ 2147483648 ∧
      Hid (∀ W : World, TabAt 0 Lib.deBruijn64tab W → Calls Tryz.prog 100 #[.agg #[.bool b, .string s, .int .i64 e], .agg #[.bool c, .string t, .int .i64 f]] W fun r w' => r = .returned (.agg #[.int .i64 k, .bool (neg X), .string (mag X), .bool (neg Y), .string (mag Y)]) ∧ Below W.heap.size W w') := by
  obtain ⟨a1, a2, a3⟩ := nd_form n1
  obtain ⟨c1, c2, c3⟩ := nd_form n2
  have cF := Lib.hid (fun W (hT : TabAt 0 Lib.deBruijn64tab W) => dForm_any s b e W (Nat.le_trans n1.size (by decide)) (by have := n1.lo; omega) (by have := n1.hi; omega) hT)
  have cG := Lib.hid (fun W (hT : TabAt 0 Lib.deBruijn64tab W) => dForm_any t c f W (Nat.le_trans n2.size (by decide)) (by have := n2.lo; omega) (by have := n2.hi; omega) hT)
  rw [n1.val] at cF
  rw [n2.val] at cG
  by_cases hx : x = 0
  · subst hx
    have z1 : shiftI (dm 0) (de 0 - de y) = 0 := by
      show shiftI 0 _ = 0
      unfold shiftI; split <;> simp
    refine ⟨de y, 0, shiftI (dm y) (de y - de y), dy_zero _, dy_level y (Int.le_refl _), by rw [bsz_zero]; decide, level_bsz (Int.le_refl _) c1 (by omega), by omega, by omega, Lib.hid fun W hT => ?_⟩
    have cU := on_ex (b := false) (s := ⟨#[]⟩) (x := 0) (e := 0) (k := de y) rfl rfl (by decide) (by omega) (by omega)
    rw [z1] at cU
    exact dLevel_A s t b c e f _ _ _ _ _ W hT cF cG cU (on_ex (ival_mk _) rfl c1 (by omega) (by omega))
  · by_cases hy : y = 0
    · subst hy
      have z1 : shiftI (dm 0) (de 0 - de x) = 0 := by
        show shiftI 0 _ = 0
        unfold shiftI; split <;> simp
      refine ⟨de x, shiftI (dm x) (de x - de x), 0, dy_level x (Int.le_refl _), dy_zero _, level_bsz (Int.le_refl _) a1 (by omega), by rw [bsz_zero]; decide, by omega, by omega, Lib.hid fun W hT => ?_⟩
      have cV := on_ex (b := false) (s := ⟨#[]⟩) (x := 0) (e := 0) (k := de x) rfl rfl (by decide) (by omega) (by omega)
      rw [z1] at cV
      exact dLevel_B s t b c e f _ _ _ (mag_some hx) _ _ W hT cF cG (on_ex (ival_mk _) rfl a1 (by omega) (by omega)) cV
    · obtain ⟨k, hk⟩ : ∃ k, min (de x) (de y) = k := ⟨_, rfl⟩
      refine ⟨k, shiftI (dm x) (de x - k), shiftI (dm y) (de y - k), dy_level x (by omega), dy_level y (by omega), level_bsz (by omega) a1 (by omega), level_bsz (by omega) c1 (by omega), by omega, by omega, Lib.hid fun W hT => ?_⟩
      exact dLevel_C s t b c e f _ _ _ (mag_some hx) _ _ _ k (mag_some hy) hk _ _ W hT cF cG (on_ex (ival_mk _) rfl a1 (by omega) (by omega)) (on_ex (ival_mk _) rfl c1 (by omega) (by omega))

set_option maxRecDepth 100000 in
set_option maxHeartbeats 1000000 in
theorem dCmp_a (s t : ByteArray) (b c : Bool) (e f : Int) (w : World)
    (cS : Hid (∀ W : World, Calls Tryz.prog 50 #[.agg #[.bool b, .string s, .int .i64 e]] W fun r w' => r = .returned (.int .i64 (-1)) ∧ Below W.heap.size W w'))
    (cR : Hid (∀ W : World, Calls Tryz.prog 50 #[.agg #[.bool c, .string t, .int .i64 f]] W fun r w' => r = .returned (.int .i64 (0)) ∧ Below W.heap.size W w'))
    :
    Calls Tryz.prog 51 #[.agg #[.bool b, .string s, .int .i64 e], .agg #[.bool c, .string t, .int .i64 f]] w fun r w' => r = .returned (.int .i64 (-1)) ∧ Below w.heap.size w w' := by
  go_enter Tryz.func51, Tryz.ntmps51
  go_upto_region 1 with (fail)
  have X1 := (Bx.new w 25 #[.bool b, .string s, .int .i64 e]).alloc (.cells #[.bool c, .string t, .int .i64 f] 25)
  have X2 := Bx.at1 w (.cells #[.bool b, .string s, .int .i64 e] 25) 25 #[.bool c, .string t, .int .i64 f]
  have hB := b2 w (.cells #[.bool b, .string s, .int .i64 e] 25) (.cells #[.bool c, .string t, .int .i64 f] 25)
  generalize (w.alloc (.cells #[.bool b, .string s, .int .i64 e] 25)).alloc (.cells #[.bool c, .string t, .int .i64 f] 25) = w0 at *
  have hl0 := X1.lt
  have hl1 := X2.lt
  refine wp_region_k [8, 9, 10, 11, 5, 6] [.eq (.agg #[.bool b, .string s, .int .i64 e]), .eq (.int .i64 (-1)), .eq (.agg #[.bool c, .string t, .int .i64 f]), .eq (.int .i64 (0)), .eq (.int .i64 (-1)), .eq (.int .i64 (0))] 28 (by kernel_rfl) (by exact fun _ _ _ _ _ h => h) (by kernel_rfl) (by rfl) ?hop ?htail
  case hop =>
    intro A hA
    have hN : A.tmps.size = 28 := by rw [hA]; rfl
    have q2 : A.tmps.getD 2 undef = .pointer (some ⟨w.heap.size, 0, none⟩) := by rw [hA]; rfl
    have q3 : A.tmps.getD 3 undef = .pointer (some ⟨w.heap.size + 1, 0, none⟩) := by rw [hA]; rfl
    clear hA
    refine ⟨?_, ?_, ?_, ?_, ?_, ?_, trivial⟩
    · refine kok hN fun u W ev ec ef E B hG hf => ?_
      exact k_val _ rfl rfl hG (by simp [go_sem, B 2 rfl rfl q2, (X1.later hG).cel]) rfl
    · refine kok hN fun u W ev ec ef E B hG hf => ?_
      exact k_cl rfl rfl (by simp [go_sem, ef, E 8 0 rfl rfl (hf 0 rfl)]) (cS.out W) hG (fun _ _ => rfl)
    · refine kok hN fun u W ev ec ef E B hG hf => ?_
      exact k_val _ rfl rfl hG (by simp [go_sem, B 3 rfl rfl q3, (X2.later hG).cel]) rfl
    · refine kok hN fun u W ev ec ef E B hG hf => ?_
      exact k_cl rfl rfl (by simp [go_sem, ef, E 10 2 rfl rfl (hf 2 rfl)]) (cR.out W) hG (fun _ _ => rfl)
    · refine kok hN fun u W ev ec ef E B hG hf => ?_
      exact k_val _ rfl rfl hG (by simp [go_sem, E 9 1 rfl rfl (hf 1 rfl)]) rfl
    · refine kok hN fun u W ev ec ef E B hG hf => ?_
      exact k_val _ rfl rfl hG (by simp [go_sem, E 11 3 rfl rfl (hf 3 rfl)]) rfl
  case htail =>
    intro u w' hG hP hD
    have f5 : u 4 = .int .i64 (-1) := hP 4 (by decide)
    have f6 : u 5 = .int .i64 (0) := hP 5 (by decide)
    simp only [putAll, Act.put, List.setIfInBounds_toArray, List.set_cons_zero, List.set_cons_succ, List.length_cons, List.length_nil, Nat.reduceAdd, List.drop_succ_cons, List.drop_zero, f5, f6]
    replace hB := nxt hB hG
    replace X1 := X1.later hG
    replace X2 := X2.later hG
    clear hP hD hG f5 f6
    clear X1 X2
    go_wp2
    go_ret
    exact ⟨rfl, hB⟩

set_option maxRecDepth 100000 in
set_option maxHeartbeats 1000000 in
theorem dCmp_b (s t : ByteArray) (b c : Bool) (e f : Int) (w : World)
    (cS : Hid (∀ W : World, Calls Tryz.prog 50 #[.agg #[.bool b, .string s, .int .i64 e]] W fun r w' => r = .returned (.int .i64 (-1)) ∧ Below W.heap.size W w'))
    (cR : Hid (∀ W : World, Calls Tryz.prog 50 #[.agg #[.bool c, .string t, .int .i64 f]] W fun r w' => r = .returned (.int .i64 (1)) ∧ Below W.heap.size W w'))
    :
    Calls Tryz.prog 51 #[.agg #[.bool b, .string s, .int .i64 e], .agg #[.bool c, .string t, .int .i64 f]] w fun r w' => r = .returned (.int .i64 (-1)) ∧ Below w.heap.size w w' := by
  go_enter Tryz.func51, Tryz.ntmps51
  go_upto_region 1 with (fail)
  have X1 := (Bx.new w 25 #[.bool b, .string s, .int .i64 e]).alloc (.cells #[.bool c, .string t, .int .i64 f] 25)
  have X2 := Bx.at1 w (.cells #[.bool b, .string s, .int .i64 e] 25) 25 #[.bool c, .string t, .int .i64 f]
  have hB := b2 w (.cells #[.bool b, .string s, .int .i64 e] 25) (.cells #[.bool c, .string t, .int .i64 f] 25)
  generalize (w.alloc (.cells #[.bool b, .string s, .int .i64 e] 25)).alloc (.cells #[.bool c, .string t, .int .i64 f] 25) = w0 at *
  have hl0 := X1.lt
  have hl1 := X2.lt
  refine wp_region_k [8, 9, 10, 11, 5, 6] [.eq (.agg #[.bool b, .string s, .int .i64 e]), .eq (.int .i64 (-1)), .eq (.agg #[.bool c, .string t, .int .i64 f]), .eq (.int .i64 (1)), .eq (.int .i64 (-1)), .eq (.int .i64 (1))] 28 (by kernel_rfl) (by exact fun _ _ _ _ _ h => h) (by kernel_rfl) (by rfl) ?hop ?htail
  case hop =>
    intro A hA
    have hN : A.tmps.size = 28 := by rw [hA]; rfl
    have q2 : A.tmps.getD 2 undef = .pointer (some ⟨w.heap.size, 0, none⟩) := by rw [hA]; rfl
    have q3 : A.tmps.getD 3 undef = .pointer (some ⟨w.heap.size + 1, 0, none⟩) := by rw [hA]; rfl
    clear hA
    refine ⟨?_, ?_, ?_, ?_, ?_, ?_, trivial⟩
    · refine kok hN fun u W ev ec ef E B hG hf => ?_
      exact k_val _ rfl rfl hG (by simp [go_sem, B 2 rfl rfl q2, (X1.later hG).cel]) rfl
    · refine kok hN fun u W ev ec ef E B hG hf => ?_
      exact k_cl rfl rfl (by simp [go_sem, ef, E 8 0 rfl rfl (hf 0 rfl)]) (cS.out W) hG (fun _ _ => rfl)
    · refine kok hN fun u W ev ec ef E B hG hf => ?_
      exact k_val _ rfl rfl hG (by simp [go_sem, B 3 rfl rfl q3, (X2.later hG).cel]) rfl
    · refine kok hN fun u W ev ec ef E B hG hf => ?_
      exact k_cl rfl rfl (by simp [go_sem, ef, E 10 2 rfl rfl (hf 2 rfl)]) (cR.out W) hG (fun _ _ => rfl)
    · refine kok hN fun u W ev ec ef E B hG hf => ?_
      exact k_val _ rfl rfl hG (by simp [go_sem, E 9 1 rfl rfl (hf 1 rfl)]) rfl
    · refine kok hN fun u W ev ec ef E B hG hf => ?_
      exact k_val _ rfl rfl hG (by simp [go_sem, E 11 3 rfl rfl (hf 3 rfl)]) rfl
  case htail =>
    intro u w' hG hP hD
    have f5 : u 4 = .int .i64 (-1) := hP 4 (by decide)
    have f6 : u 5 = .int .i64 (1) := hP 5 (by decide)
    simp only [putAll, Act.put, List.setIfInBounds_toArray, List.set_cons_zero, List.set_cons_succ, List.length_cons, List.length_nil, Nat.reduceAdd, List.drop_succ_cons, List.drop_zero, f5, f6]
    replace hB := nxt hB hG
    replace X1 := X1.later hG
    replace X2 := X2.later hG
    clear hP hD hG f5 f6
    clear X1 X2
    go_wp2
    go_ret
    exact ⟨rfl, hB⟩

set_option maxRecDepth 100000 in
set_option maxHeartbeats 1000000 in
theorem dCmp_c (s t : ByteArray) (b c : Bool) (e f : Int) (w : World)
    (cS : Hid (∀ W : World, Calls Tryz.prog 50 #[.agg #[.bool b, .string s, .int .i64 e]] W fun r w' => r = .returned (.int .i64 (0)) ∧ Below W.heap.size W w'))
    (cR : Hid (∀ W : World, Calls Tryz.prog 50 #[.agg #[.bool c, .string t, .int .i64 f]] W fun r w' => r = .returned (.int .i64 (-1)) ∧ Below W.heap.size W w'))
    :
    Calls Tryz.prog 51 #[.agg #[.bool b, .string s, .int .i64 e], .agg #[.bool c, .string t, .int .i64 f]] w fun r w' => r = .returned (.int .i64 (1)) ∧ Below w.heap.size w w' := by
  go_enter Tryz.func51, Tryz.ntmps51
  go_upto_region 1 with (fail)
  have X1 := (Bx.new w 25 #[.bool b, .string s, .int .i64 e]).alloc (.cells #[.bool c, .string t, .int .i64 f] 25)
  have X2 := Bx.at1 w (.cells #[.bool b, .string s, .int .i64 e] 25) 25 #[.bool c, .string t, .int .i64 f]
  have hB := b2 w (.cells #[.bool b, .string s, .int .i64 e] 25) (.cells #[.bool c, .string t, .int .i64 f] 25)
  generalize (w.alloc (.cells #[.bool b, .string s, .int .i64 e] 25)).alloc (.cells #[.bool c, .string t, .int .i64 f] 25) = w0 at *
  have hl0 := X1.lt
  have hl1 := X2.lt
  refine wp_region_k [8, 9, 10, 11, 5, 6] [.eq (.agg #[.bool b, .string s, .int .i64 e]), .eq (.int .i64 (0)), .eq (.agg #[.bool c, .string t, .int .i64 f]), .eq (.int .i64 (-1)), .eq (.int .i64 (0)), .eq (.int .i64 (-1))] 28 (by kernel_rfl) (by exact fun _ _ _ _ _ h => h) (by kernel_rfl) (by rfl) ?hop ?htail
  case hop =>
    intro A hA
    have hN : A.tmps.size = 28 := by rw [hA]; rfl
    have q2 : A.tmps.getD 2 undef = .pointer (some ⟨w.heap.size, 0, none⟩) := by rw [hA]; rfl
    have q3 : A.tmps.getD 3 undef = .pointer (some ⟨w.heap.size + 1, 0, none⟩) := by rw [hA]; rfl
    clear hA
    refine ⟨?_, ?_, ?_, ?_, ?_, ?_, trivial⟩
    · refine kok hN fun u W ev ec ef E B hG hf => ?_
      exact k_val _ rfl rfl hG (by simp [go_sem, B 2 rfl rfl q2, (X1.later hG).cel]) rfl
    · refine kok hN fun u W ev ec ef E B hG hf => ?_
      exact k_cl rfl rfl (by simp [go_sem, ef, E 8 0 rfl rfl (hf 0 rfl)]) (cS.out W) hG (fun _ _ => rfl)
    · refine kok hN fun u W ev ec ef E B hG hf => ?_
      exact k_val _ rfl rfl hG (by simp [go_sem, B 3 rfl rfl q3, (X2.later hG).cel]) rfl
    · refine kok hN fun u W ev ec ef E B hG hf => ?_
      exact k_cl rfl rfl (by simp [go_sem, ef, E 10 2 rfl rfl (hf 2 rfl)]) (cR.out W) hG (fun _ _ => rfl)
    · refine kok hN fun u W ev ec ef E B hG hf => ?_
      exact k_val _ rfl rfl hG (by simp [go_sem, E 9 1 rfl rfl (hf 1 rfl)]) rfl
    · refine kok hN fun u W ev ec ef E B hG hf => ?_
      exact k_val _ rfl rfl hG (by simp [go_sem, E 11 3 rfl rfl (hf 3 rfl)]) rfl
  case htail =>
    intro u w' hG hP hD
    have f5 : u 4 = .int .i64 (0) := hP 4 (by decide)
    have f6 : u 5 = .int .i64 (-1) := hP 5 (by decide)
    simp only [putAll, Act.put, List.setIfInBounds_toArray, List.set_cons_zero, List.set_cons_succ, List.length_cons, List.length_nil, Nat.reduceAdd, List.drop_succ_cons, List.drop_zero, f5, f6]
    replace hB := nxt hB hG
    replace X1 := X1.later hG
    replace X2 := X2.later hG
    clear hP hD hG f5 f6
    clear X1 X2
    go_wp2
    go_ret
    exact ⟨rfl, hB⟩

set_option maxRecDepth 100000 in
set_option maxHeartbeats 1000000 in
theorem dCmp_d (s t : ByteArray) (b c : Bool) (e f : Int) (w : World)
    (cS : Hid (∀ W : World, Calls Tryz.prog 50 #[.agg #[.bool b, .string s, .int .i64 e]] W fun r w' => r = .returned (.int .i64 (0)) ∧ Below W.heap.size W w'))
    (cR : Hid (∀ W : World, Calls Tryz.prog 50 #[.agg #[.bool c, .string t, .int .i64 f]] W fun r w' => r = .returned (.int .i64 (1)) ∧ Below W.heap.size W w'))
    :
    Calls Tryz.prog 51 #[.agg #[.bool b, .string s, .int .i64 e], .agg #[.bool c, .string t, .int .i64 f]] w fun r w' => r = .returned (.int .i64 (-1)) ∧ Below w.heap.size w w' := by
  go_enter Tryz.func51, Tryz.ntmps51
  go_upto_region 1 with (fail)
  have X1 := (Bx.new w 25 #[.bool b, .string s, .int .i64 e]).alloc (.cells #[.bool c, .string t, .int .i64 f] 25)
  have X2 := Bx.at1 w (.cells #[.bool b, .string s, .int .i64 e] 25) 25 #[.bool c, .string t, .int .i64 f]
  have hB := b2 w (.cells #[.bool b, .string s, .int .i64 e] 25) (.cells #[.bool c, .string t, .int .i64 f] 25)
  generalize (w.alloc (.cells #[.bool b, .string s, .int .i64 e] 25)).alloc (.cells #[.bool c, .string t, .int .i64 f] 25) = w0 at *
  have hl0 := X1.lt
  have hl1 := X2.lt
  refine wp_region_k [8, 9, 10, 11, 5, 6] [.eq (.agg #[.bool b, .string s, .int .i64 e]), .eq (.int .i64 (0)), .eq (.agg #[.bool c, .string t, .int .i64 f]), .eq (.int .i64 (1)), .eq (.int .i64 (0)), .eq (.int .i64 (1))] 28 (by kernel_rfl) (by exact fun _ _ _ _ _ h => h) (by kernel_rfl) (by rfl) ?hop ?htail
  case hop =>
    intro A hA
    have hN : A.tmps.size = 28 := by rw [hA]; rfl
    have q2 : A.tmps.getD 2 undef = .pointer (some ⟨w.heap.size, 0, none⟩) := by rw [hA]; rfl
    have q3 : A.tmps.getD 3 undef = .pointer (some ⟨w.heap.size + 1, 0, none⟩) := by rw [hA]; rfl
    clear hA
    refine ⟨?_, ?_, ?_, ?_, ?_, ?_, trivial⟩
    · refine kok hN fun u W ev ec ef E B hG hf => ?_
      exact k_val _ rfl rfl hG (by simp [go_sem, B 2 rfl rfl q2, (X1.later hG).cel]) rfl
    · refine kok hN fun u W ev ec ef E B hG hf => ?_
      exact k_cl rfl rfl (by simp [go_sem, ef, E 8 0 rfl rfl (hf 0 rfl)]) (cS.out W) hG (fun _ _ => rfl)
    · refine kok hN fun u W ev ec ef E B hG hf => ?_
      exact k_val _ rfl rfl hG (by simp [go_sem, B 3 rfl rfl q3, (X2.later hG).cel]) rfl
    · refine kok hN fun u W ev ec ef E B hG hf => ?_
      exact k_cl rfl rfl (by simp [go_sem, ef, E 10 2 rfl rfl (hf 2 rfl)]) (cR.out W) hG (fun _ _ => rfl)
    · refine kok hN fun u W ev ec ef E B hG hf => ?_
      exact k_val _ rfl rfl hG (by simp [go_sem, E 9 1 rfl rfl (hf 1 rfl)]) rfl
    · refine kok hN fun u W ev ec ef E B hG hf => ?_
      exact k_val _ rfl rfl hG (by simp [go_sem, E 11 3 rfl rfl (hf 3 rfl)]) rfl
  case htail =>
    intro u w' hG hP hD
    have f5 : u 4 = .int .i64 (0) := hP 4 (by decide)
    have f6 : u 5 = .int .i64 (1) := hP 5 (by decide)
    simp only [putAll, Act.put, List.setIfInBounds_toArray, List.set_cons_zero, List.set_cons_succ, List.length_cons, List.length_nil, Nat.reduceAdd, List.drop_succ_cons, List.drop_zero, f5, f6]
    replace hB := nxt hB hG
    replace X1 := X1.later hG
    replace X2 := X2.later hG
    clear hP hD hG f5 f6
    clear X1 X2
    go_wp2
    go_ret
    exact ⟨rfl, hB⟩

set_option maxRecDepth 100000 in
set_option maxHeartbeats 1000000 in
theorem dCmp_e (s t : ByteArray) (b c : Bool) (e f : Int) (w : World)
    (cS : Hid (∀ W : World, Calls Tryz.prog 50 #[.agg #[.bool b, .string s, .int .i64 e]] W fun r w' => r = .returned (.int .i64 (1)) ∧ Below W.heap.size W w'))
    (cR : Hid (∀ W : World, Calls Tryz.prog 50 #[.agg #[.bool c, .string t, .int .i64 f]] W fun r w' => r = .returned (.int .i64 (-1)) ∧ Below W.heap.size W w'))
    :
    Calls Tryz.prog 51 #[.agg #[.bool b, .string s, .int .i64 e], .agg #[.bool c, .string t, .int .i64 f]] w fun r w' => r = .returned (.int .i64 (1)) ∧ Below w.heap.size w w' := by
  go_enter Tryz.func51, Tryz.ntmps51
  go_upto_region 1 with (fail)
  have X1 := (Bx.new w 25 #[.bool b, .string s, .int .i64 e]).alloc (.cells #[.bool c, .string t, .int .i64 f] 25)
  have X2 := Bx.at1 w (.cells #[.bool b, .string s, .int .i64 e] 25) 25 #[.bool c, .string t, .int .i64 f]
  have hB := b2 w (.cells #[.bool b, .string s, .int .i64 e] 25) (.cells #[.bool c, .string t, .int .i64 f] 25)
  generalize (w.alloc (.cells #[.bool b, .string s, .int .i64 e] 25)).alloc (.cells #[.bool c, .string t, .int .i64 f] 25) = w0 at *
  have hl0 := X1.lt
  have hl1 := X2.lt
  refine wp_region_k [8, 9, 10, 11, 5, 6] [.eq (.agg #[.bool b, .string s, .int .i64 e]), .eq (.int .i64 (1)), .eq (.agg #[.bool c, .string t, .int .i64 f]), .eq (.int .i64 (-1)), .eq (.int .i64 (1)), .eq (.int .i64 (-1))] 28 (by kernel_rfl) (by exact fun _ _ _ _ _ h => h) (by kernel_rfl) (by rfl) ?hop ?htail
  case hop =>
    intro A hA
    have hN : A.tmps.size = 28 := by rw [hA]; rfl
    have q2 : A.tmps.getD 2 undef = .pointer (some ⟨w.heap.size, 0, none⟩) := by rw [hA]; rfl
    have q3 : A.tmps.getD 3 undef = .pointer (some ⟨w.heap.size + 1, 0, none⟩) := by rw [hA]; rfl
    clear hA
    refine ⟨?_, ?_, ?_, ?_, ?_, ?_, trivial⟩
    · refine kok hN fun u W ev ec ef E B hG hf => ?_
      exact k_val _ rfl rfl hG (by simp [go_sem, B 2 rfl rfl q2, (X1.later hG).cel]) rfl
    · refine kok hN fun u W ev ec ef E B hG hf => ?_
      exact k_cl rfl rfl (by simp [go_sem, ef, E 8 0 rfl rfl (hf 0 rfl)]) (cS.out W) hG (fun _ _ => rfl)
    · refine kok hN fun u W ev ec ef E B hG hf => ?_
      exact k_val _ rfl rfl hG (by simp [go_sem, B 3 rfl rfl q3, (X2.later hG).cel]) rfl
    · refine kok hN fun u W ev ec ef E B hG hf => ?_
      exact k_cl rfl rfl (by simp [go_sem, ef, E 10 2 rfl rfl (hf 2 rfl)]) (cR.out W) hG (fun _ _ => rfl)
    · refine kok hN fun u W ev ec ef E B hG hf => ?_
      exact k_val _ rfl rfl hG (by simp [go_sem, E 9 1 rfl rfl (hf 1 rfl)]) rfl
    · refine kok hN fun u W ev ec ef E B hG hf => ?_
      exact k_val _ rfl rfl hG (by simp [go_sem, E 11 3 rfl rfl (hf 3 rfl)]) rfl
  case htail =>
    intro u w' hG hP hD
    have f5 : u 4 = .int .i64 (1) := hP 4 (by decide)
    have f6 : u 5 = .int .i64 (-1) := hP 5 (by decide)
    simp only [putAll, Act.put, List.setIfInBounds_toArray, List.set_cons_zero, List.set_cons_succ, List.length_cons, List.length_nil, Nat.reduceAdd, List.drop_succ_cons, List.drop_zero, f5, f6]
    replace hB := nxt hB hG
    replace X1 := X1.later hG
    replace X2 := X2.later hG
    clear hP hD hG f5 f6
    clear X1 X2
    go_wp2
    go_ret
    exact ⟨rfl, hB⟩

set_option maxRecDepth 100000 in
set_option maxHeartbeats 1000000 in
theorem dCmp_f (s t : ByteArray) (b c : Bool) (e f : Int) (w : World)
    (cS : Hid (∀ W : World, Calls Tryz.prog 50 #[.agg #[.bool b, .string s, .int .i64 e]] W fun r w' => r = .returned (.int .i64 (1)) ∧ Below W.heap.size W w'))
    (cR : Hid (∀ W : World, Calls Tryz.prog 50 #[.agg #[.bool c, .string t, .int .i64 f]] W fun r w' => r = .returned (.int .i64 (0)) ∧ Below W.heap.size W w'))
    :
    Calls Tryz.prog 51 #[.agg #[.bool b, .string s, .int .i64 e], .agg #[.bool c, .string t, .int .i64 f]] w fun r w' => r = .returned (.int .i64 (1)) ∧ Below w.heap.size w w' := by
  go_enter Tryz.func51, Tryz.ntmps51
  go_upto_region 1 with (fail)
  have X1 := (Bx.new w 25 #[.bool b, .string s, .int .i64 e]).alloc (.cells #[.bool c, .string t, .int .i64 f] 25)
  have X2 := Bx.at1 w (.cells #[.bool b, .string s, .int .i64 e] 25) 25 #[.bool c, .string t, .int .i64 f]
  have hB := b2 w (.cells #[.bool b, .string s, .int .i64 e] 25) (.cells #[.bool c, .string t, .int .i64 f] 25)
  generalize (w.alloc (.cells #[.bool b, .string s, .int .i64 e] 25)).alloc (.cells #[.bool c, .string t, .int .i64 f] 25) = w0 at *
  have hl0 := X1.lt
  have hl1 := X2.lt
  refine wp_region_k [8, 9, 10, 11, 5, 6] [.eq (.agg #[.bool b, .string s, .int .i64 e]), .eq (.int .i64 (1)), .eq (.agg #[.bool c, .string t, .int .i64 f]), .eq (.int .i64 (0)), .eq (.int .i64 (1)), .eq (.int .i64 (0))] 28 (by kernel_rfl) (by exact fun _ _ _ _ _ h => h) (by kernel_rfl) (by rfl) ?hop ?htail
  case hop =>
    intro A hA
    have hN : A.tmps.size = 28 := by rw [hA]; rfl
    have q2 : A.tmps.getD 2 undef = .pointer (some ⟨w.heap.size, 0, none⟩) := by rw [hA]; rfl
    have q3 : A.tmps.getD 3 undef = .pointer (some ⟨w.heap.size + 1, 0, none⟩) := by rw [hA]; rfl
    clear hA
    refine ⟨?_, ?_, ?_, ?_, ?_, ?_, trivial⟩
    · refine kok hN fun u W ev ec ef E B hG hf => ?_
      exact k_val _ rfl rfl hG (by simp [go_sem, B 2 rfl rfl q2, (X1.later hG).cel]) rfl
    · refine kok hN fun u W ev ec ef E B hG hf => ?_
      exact k_cl rfl rfl (by simp [go_sem, ef, E 8 0 rfl rfl (hf 0 rfl)]) (cS.out W) hG (fun _ _ => rfl)
    · refine kok hN fun u W ev ec ef E B hG hf => ?_
      exact k_val _ rfl rfl hG (by simp [go_sem, B 3 rfl rfl q3, (X2.later hG).cel]) rfl
    · refine kok hN fun u W ev ec ef E B hG hf => ?_
      exact k_cl rfl rfl (by simp [go_sem, ef, E 10 2 rfl rfl (hf 2 rfl)]) (cR.out W) hG (fun _ _ => rfl)
    · refine kok hN fun u W ev ec ef E B hG hf => ?_
      exact k_val _ rfl rfl hG (by simp [go_sem, E 9 1 rfl rfl (hf 1 rfl)]) rfl
    · refine kok hN fun u W ev ec ef E B hG hf => ?_
      exact k_val _ rfl rfl hG (by simp [go_sem, E 11 3 rfl rfl (hf 3 rfl)]) rfl
  case htail =>
    intro u w' hG hP hD
    have f5 : u 4 = .int .i64 (1) := hP 4 (by decide)
    have f6 : u 5 = .int .i64 (0) := hP 5 (by decide)
    simp only [putAll, Act.put, List.setIfInBounds_toArray, List.set_cons_zero, List.set_cons_succ, List.length_cons, List.length_nil, Nat.reduceAdd, List.drop_succ_cons, List.drop_zero, f5, f6]
    replace hB := nxt hB hG
    replace X1 := X1.later hG
    replace X2 := X2.later hG
    clear hP hD hG f5 f6
    clear X1 X2
    go_wp2
    go_ret
    exact ⟨rfl, hB⟩

set_option maxRecDepth 100000 in
set_option maxHeartbeats 1000000 in
theorem dCmp_same (s t : ByteArray) (b c : Bool) (e f : Int) (p k X Y z : Int) (w : World)
    (cS : Hid (∀ W : World, Calls Tryz.prog 50 #[.agg #[.bool b, .string s, .int .i64 e]] W fun r w' => r = .returned (.int .i64 (p)) ∧ Below W.heap.size W w'))
    (cR : Hid (∀ W : World, Calls Tryz.prog 50 #[.agg #[.bool c, .string t, .int .i64 f]] W fun r w' => r = .returned (.int .i64 (p)) ∧ Below W.heap.size W w'))
    (HT : Hid (TabAt 0 Lib.deBruijn64tab w))
    (cL : Hid (∀ W : World, TabAt 0 Lib.deBruijn64tab W → Calls Tryz.prog 100 #[.agg #[.bool b, .string s, .int .i64 e], .agg #[.bool c, .string t, .int .i64 f]] W fun r w' => r = .returned (.agg #[.int .i64 k, .bool (neg X), .string (mag X), .bool (neg Y), .string (mag Y)]) ∧ Below W.heap.size W w'))
    (cC : Hid (∀ W : World, Calls Tryz.prog 107 #[.agg #[.bool (neg X), .string (mag X)], .agg #[.bool (neg Y), .string (mag Y)]] W fun r w' => r = .returned (.int .i64 z) ∧ Below W.heap.size W w'))
    :
    Calls Tryz.prog 51 #[.agg #[.bool b, .string s, .int .i64 e], .agg #[.bool c, .string t, .int .i64 f]] w fun r w' => r = .returned (.int .i64 (z)) ∧ Below w.heap.size w w' := by
  go_enter Tryz.func51, Tryz.ntmps51
  go_upto_region 1 with (fail)
  have X1 := (Bx.new w 25 #[.bool b, .string s, .int .i64 e]).alloc (.cells #[.bool c, .string t, .int .i64 f] 25)
  have X2 := Bx.at1 w (.cells #[.bool b, .string s, .int .i64 e] 25) 25 #[.bool c, .string t, .int .i64 f]
  have hB := b2 w (.cells #[.bool b, .string s, .int .i64 e] 25) (.cells #[.bool c, .string t, .int .i64 f] 25)
  generalize (w.alloc (.cells #[.bool b, .string s, .int .i64 e] 25)).alloc (.cells #[.bool c, .string t, .int .i64 f] 25) = w0 at *
  have hl0 := X1.lt
  have hl1 := X2.lt
  refine wp_region_k [8, 9, 10, 11, 5, 6] [.eq (.agg #[.bool b, .string s, .int .i64 e]), .eq (.int .i64 (p)), .eq (.agg #[.bool c, .string t, .int .i64 f]), .eq (.int .i64 (p)), .eq (.int .i64 (p)), .eq (.int .i64 (p))] 28 (by kernel_rfl) (by exact fun _ _ _ _ _ h => h) (by kernel_rfl) (by rfl) ?hop ?htail
  case hop =>
    intro A hA
    have hN : A.tmps.size = 28 := by rw [hA]; rfl
    have q2 : A.tmps.getD 2 undef = .pointer (some ⟨w.heap.size, 0, none⟩) := by rw [hA]; rfl
    have q3 : A.tmps.getD 3 undef = .pointer (some ⟨w.heap.size + 1, 0, none⟩) := by rw [hA]; rfl
    clear hA
    refine ⟨?_, ?_, ?_, ?_, ?_, ?_, trivial⟩
    · refine kok hN fun u W ev ec ef E B hG hf => ?_
      exact k_val _ rfl rfl hG (by simp [go_sem, B 2 rfl rfl q2, (X1.later hG).cel]) rfl
    · refine kok hN fun u W ev ec ef E B hG hf => ?_
      exact k_cl rfl rfl (by simp [go_sem, ef, E 8 0 rfl rfl (hf 0 rfl)]) (cS.out W) hG (fun _ _ => rfl)
    · refine kok hN fun u W ev ec ef E B hG hf => ?_
      exact k_val _ rfl rfl hG (by simp [go_sem, B 3 rfl rfl q3, (X2.later hG).cel]) rfl
    · refine kok hN fun u W ev ec ef E B hG hf => ?_
      exact k_cl rfl rfl (by simp [go_sem, ef, E 10 2 rfl rfl (hf 2 rfl)]) (cR.out W) hG (fun _ _ => rfl)
    · refine kok hN fun u W ev ec ef E B hG hf => ?_
      exact k_val _ rfl rfl hG (by simp [go_sem, E 9 1 rfl rfl (hf 1 rfl)]) rfl
    · refine kok hN fun u W ev ec ef E B hG hf => ?_
      exact k_val _ rfl rfl hG (by simp [go_sem, E 11 3 rfl rfl (hf 3 rfl)]) rfl
  case htail =>
    intro u w' hG hP hD
    have f5 : u 4 = .int .i64 (p) := hP 4 (by decide)
    have f6 : u 5 = .int .i64 (p) := hP 5 (by decide)
    simp only [putAll, Act.put, List.setIfInBounds_toArray, List.set_cons_zero, List.set_cons_succ, List.length_cons, List.length_nil, Nat.reduceAdd, List.drop_succ_cons, List.drop_zero, f5, f6]
    replace hB := nxt hB hG
    replace X1 := X1.later hG
    replace X2 := X2.later hG
    clear hP hD hG f5 f6
    obtain ⟨p1, p2, p5, _, _, _⟩ := X1.three
    obtain ⟨q1, q2, q5, _, _, _⟩ := X2.three
    clear X1 X2
    go_wp2_with fail
    refine (cL.out _ (tab_keep HT.out hB)).mono ?_
    rintro e w2 ⟨rfl, hb⟩
    replace hB := nxt hB hb
    clear hb p1 p2 p5 q1 q2 q5
    have X4 := Bx.new w2 104 #[.int .i64 k, .bool (neg X), .string (mag X), .bool (neg Y), .string (mag Y)]
    obtain ⟨r1, r2, r3, r4, r5, _, _, _, _, _⟩ := X4.five
    replace hB := nxtA hB (.cells #[.int .i64 k, .bool (neg X), .string (mag X), .bool (neg Y), .string (mag Y)] 104)
    clear X4
    go_wp2_with fail
    refine (cC.out _).mono ?_
    rintro e w3 ⟨rfl, hb⟩
    replace hB := nxt hB hb
    go_wp2
    go_ret
    exact ⟨rfl, hB⟩

theorem dsgn_three (x : Dyadic) : (dsgn x = -1 ∧ x < 0) ∨ (dsgn x = 0 ∧ x = 0) ∨ (dsgn x = 1 ∧ 0 < x) := by
  have h := dsgn_bd x
  rcases Int.lt_trichotomy (dsgn x) 0 with h1 | h1 | h1
  · exact .inl ⟨by omega, dsgn_lt.1 h1⟩
  · exact .inr (.inl ⟨h1, dsgn_eq.1 h1⟩)
  · exact .inr (.inr ⟨by omega, dsgn_gt.1 h1⟩)
theorem dsgn_down {x : Dyadic} (h : x < 0) : dsgn x = -1 := by have := dsgn_bd x; have := dsgn_lt.2 h; omega
theorem dsgn_up {x : Dyadic} (h : 0 < x) : dsgn x = 1 := by have := dsgn_bd x; have := dsgn_gt.2 h; omega
theorem dCmp_any {b c : Bool} {s t : ByteArray} {e f : Int} {x y : Dyadic} (w : World) (n1 : ND b s e x) (n2 : ND c t f y) (hT : TabAt 0 Lib.deBruijn64tab w) :
    Calls Tryz.prog 51 #[.agg #[.bool b, .string s, .int .i64 e], .agg #[.bool c, .string t, .int .i64 f]] w fun r w' => r = .returned (.int .i64 (dsgn (x - y))) ∧ Below w.heap.size w w' := by
  have cS := Lib.hid (fun W => dSign_any s b e W)
  have cR := Lib.hid (fun W => dSign_any t c f W)
  rw [n1.val] at cS
  rw [n2.val] at cR
  by_cases hpq : dsgn x = dsgn y
  · obtain ⟨k, X, Y, hX, hY, bX, bY, k1, k2, cL⟩ := dLevel_ex n1 n2
    have cC := Lib.hid (fun W => wCmp_any (mag X) (mag Y) (neg X) (neg Y) W (by rw [mag_size]; omega) (by rw [mag_size]; omega))
    rw [ival_mk, ival_mk] at cC
    have e1 : dsgn (x - y) = sgn (X - Y) := by rw [← hX, ← hY, dy_sub, dsgn_dy]
    rw [e1]
    rw [← hpq] at cR
    exact dCmp_same s t b c e f _ k X Y _ w cS cR (Lib.hid hT) cL cC
  · rcases dsgn_three x with ⟨h1, hx⟩ | ⟨h1, hx⟩ | ⟨h1, hx⟩ <;> rcases dsgn_three y with ⟨h2, hy⟩ | ⟨h2, hy⟩ | ⟨h2, hy⟩ <;> rw [h1] at cS hpq <;> rw [h2] at cR hpq
    · exact absurd rfl hpq
    · rw [dsgn_down (x := x - y) (by subst hy; grind)]; exact dCmp_a s t b c e f w cS cR
    · rw [dsgn_down (x := x - y) (by grind)]; exact dCmp_b s t b c e f w cS cR
    · rw [dsgn_up (x := x - y) (by subst hx; grind)]; exact dCmp_c s t b c e f w cS cR
    · exact absurd rfl hpq
    · rw [dsgn_down (x := x - y) (by subst hx; grind)]; exact dCmp_d s t b c e f w cS cR
    · rw [dsgn_up (x := x - y) (by grind)]; exact dCmp_e s t b c e f w cS cR
    · rw [dsgn_up (x := x - y) (by subst hy; grind)]; exact dCmp_f s t b c e f w cS cR
    · exact absurd rfl hpq

end Go.Proofs.YtchfglbkiebfpaaGreatDoor

namespace Go.Proofs.YtchfglbkiebfpaaGreatDoor
open Go.RowKit

theorem dgt_zero_mod (B v : Nat) : dgt B v 0 = v % B := by unfold dgt; rw [Nat.pow_zero, Nat.div_one]
theorem nd8_mul (u : Nat) (h : u ≠ 0) : nd 8 (u * 256) = nd 8 u + 1 := by
  refine nd_eq (k := 8) (by decide) ?_ (fun _ => ?_)
  · rw [Nat.pow_succ]
    exact Nat.mul_lt_mul_of_pos_right (nd_lt (k := 8) (by decide) u) (by decide)
  · have h1 := nd_le (k := 8) u h
    have h2 := nd_pos (k := 8) h
    rw [show nd 8 u + 1 - 1 = (nd 8 u - 1) + 1 by omega, Nat.pow_succ]
    exact Nat.mul_le_mul_right _ h1
theorem nbytes_mul (u : Nat) (h : u ≠ 0) : nbytes (u * 256) = nbytes u ++ [0] := by
  apply List.ext_getElem
  · rw [List.length_append, nbytes_length, nbytes_length, nd8_mul u h]; rfl
  · intro i h1 h2
    rw [nbytes_length, nd8_mul u h] at h1
    by_cases hi : i < nd 8 u
    · rw [List.getElem_append_left (by rw [nbytes_length]; exact hi)]
      simp only [nbytes, List.getElem_map, List.getElem_range]
      rw [nd8_mul u h]
      have e := dgt_mul_pow_ge 256 u 1 (nd 8 u - 1 - i) (by decide)
      rw [Nat.pow_one, Nat.mul_comm] at e
      rw [show nd 8 u + 1 - 1 - i = 1 + (nd 8 u - 1 - i) by omega, e]
    · have hi' : i = nd 8 u := by omega
      subst hi'
      rw [List.getElem_append_right (by rw [nbytes_length]; exact Nat.le_refl _)]
      simp only [nbytes, List.getElem_map, List.getElem_range]
      rw [nd8_mul u h, show nd 8 u + 1 - 1 - nd 8 u = 0 by omega, dgt_zero_mod]
      simp
theorem nstr_chop (u : Nat) (h : u ≠ 0) : (nstr (u * 256)).extract 0 ((nstr (u * 256)).size - 1) = nstr u := by
  rw [nstr_size, nd8_mul u h, Nat.add_sub_cancel]
  apply ByteArray.ext
  rw [ByteArray.data_extract]
  show (nbytes (u * 256)).toArray.extract 0 (nd 8 u) = (nbytes u).toArray
  rw [nbytes_mul u h]
  have e := nbytes_length u
  rw [← e]
  simp
theorem last_byte (v : Nat) (h : v ≠ 0) (hl : (nstr v).size - 1 < (nstr v).data.toList.length) : ((nstr v).data.toList[(nstr v).size - 1]'hl).toNat = v % 256 := by
  have h1 : 0 < (nbytes v).length := by rw [nbytes_length]; exact nd_pos h
  have h2 := dgt_bval (nbytes v) 0 h1
  rw [bval_nbytes, dgt_zero_mod] at h2
  rw [h2]
  congr 2

set_option maxRecDepth 100000 in
set_option maxHeartbeats 1000000 in
theorem rMake_some (s : ByteArray) (b : Bool) (e z0 : Int) (D : Dyadic) (S : Nat) (w : World) (hz : z0 ≠ 0) (hD : dy z0 e = D) (hS0 : bsz z0 ≤ S) (hS : S ≤ 8388608) (he1 : -1152921504606846976 ≤ e) (heD : de D ≤ 1152921504606846976)
    (cF : Hid (∀ W : World, Calls Tryz.prog 126 #[.agg #[.bool b, .string s]] W fun r w' => r = .returned (.agg #[.bool (neg (z0)), .string (mag (z0))]) ∧ Below W.heap.size W w'))
    (cO : Hid (∀ W : World, Calls Tryz.prog 88 #[.int .i64 2] W fun r w' => r = .returned (.agg #[.bool (neg (2)), .string (mag (2))]) ∧ Below W.heap.size W w'))
    (cD0 : Hid (∀ z, bsz z ≤ S → ∀ W : World, Calls Tryz.prog 84 #[.agg #[.bool (neg (z)), .string (mag (z))], .agg #[.bool (neg (2)), .string (mag (2))]] W fun r w' => r = .returned (.tuple #[.agg #[.bool (neg (z / 2)), .string (mag (z / 2))], .agg #[.bool (neg (z % 2)), .string (mag (z % 2))], .bool true]) ∧ Below W.heap.size W w'))    :
    Calls Tryz.prog 86 #[.agg #[.bool b, .string s], .int .i64 e] w fun r w' => r = .returned (.agg #[.bool (neg (dm (D))), .string (mag (dm (D))), .int .i64 (de (D))]) ∧ Below w.heap.size w w' := by
  have HD := Lib.hid hD
  have hde : ∀ z e1, z ≠ 0 → dy z e1 = D → e1 ≤ de D := fun z e1 h0 h => by
    have := (dm_dy e1 h0).2
    rw [h] at this; omega
  have HDE := Lib.hid hde
  have hm : (mag z0).toList.isEmpty = false := mag_full hz
  clear hD hde
  go_enter Tryz.func86, Tryz.ntmps86
  go_upto_region 1 with (fail)
  have X1 := (Bx.new w 23 #[.bool b, .string s]).alloc (.cells #[.bool false, .string ⟨#[]⟩, .int .i64 0] 25)
  have X2 := Bx.at1 w (.cells #[.bool b, .string s] 23) 25 #[.bool false, .string ⟨#[]⟩, .int .i64 0]
  have hB := b2 w (.cells #[.bool b, .string s] 23) (.cells #[.bool false, .string ⟨#[]⟩, .int .i64 0] 25)
  generalize (w.alloc (.cells #[.bool b, .string s] 23)).alloc (.cells #[.bool false, .string ⟨#[]⟩, .int .i64 0] 25) = w0 at *
  have hl0 := X1.lt
  have hl1 := X2.lt
  obtain ⟨p1, p2, p3, p4⟩ := X1.two
  go_wp2_with fail
  refine (cF.out _).mono ?_
  rintro e w1 ⟨rfl, hb⟩
  replace X1 := X1.later hb
  replace X2 := X2.later hb
  replace hB := nxt hB hb
  clear hb p1 p2 p3 p4
  obtain ⟨p1, p2, p3, p4⟩ := X1.two
  have hne : w.heap.size + 1 ≠ w.heap.size := by omega
  have Y1 := X1.set2 (.bool (neg (z0))) (.string (mag (z0)))
  have Y2 := Bx.far2 (i := 0) (j := 1) X2 hne (.bool (neg (z0))) (.string (mag (z0)))
  have hB2 := st2 hB (Nat.le_refl _) (.bool (neg (z0))) (.string (mag (z0)))
  obtain ⟨q1, q2, q3, q4⟩ := Y1.two
  have HK := Lib.hid (And.intro Y1 (And.intro Y2 hB2))
  clear X1 X2 Y1 Y2 hB hB2 hne
  go_wp2_with fail
  obtain ⟨Y1, Y2, hB⟩ := HK.out
  clear HK p1 p2 p3 p4 q1 q2 q3 q4 hm
  generalize (w1.setCell ⟨w.heap.size, 0, none⟩ (.bool (neg (z0)))).setCell ⟨w.heap.size, 1, none⟩ (.string (mag (z0))) = w2 at *
  go_loopw [1] (fun ev wr => ∃ z e1 : Int, z ≠ 0 ∧ ev = .int .i64 e1 ∧ dy z e1 = D ∧ e ≤ e1 ∧ bsz z ≤ S ∧ Bx wr w.heap.size 23 #[.bool (neg (z)), .string (mag (z))] ∧ Bx wr (w.heap.size + 1) 25 #[.bool false, .string ⟨#[]⟩, .int .i64 0] ∧ Below w.heap.size w wr) (fun ev _ => (de D - intOf ev).toNat)
  case atStart => exact ⟨z0, e, hz, rfl, HD.out, Int.le_refl _, hS0, Y1, Y2, hB⟩
  case round =>
    obtain ⟨z, e1, h0, rfl, hD1, hle, hS1, Y1, Y2, hB2⟩ := hrel
    have hb1 := HDE.out z e1 h0 hD1
    have hv0 : z.natAbs ≠ 0 := by omega
    have hsz : (mag z).size = bsz z := mag_size z
    have hpos : 0 < bsz z := nd_pos (k := 8) hv0
    obtain ⟨d, hd⟩ : ∃ d : Int, d = ((z.natAbs % 256 : Nat) : Int) := ⟨_, rfl⟩
    have hd2 : d < 256 := by omega
    have hd3 : 0 ≤ d := by omega
    have hidx : ∀ W, (Instr.index 9 (.string (mag z)) (.int .i64 (((mag z).size : Int) - 1))).run Tryz.prog W = .ok (.int .u8 d) W := fun W => by
      rw [run_index_at (mag z) Tryz.underlying9 .i64 _ ((mag z).size - 1) (by omega) (by omega)]
      rw [hd]
      congr 3
      exact last_byte z.natAbs hv0 _
    have hge : (1 : Int) ≤ ((mag z).size : Int) := by omega
    have hlb : ((mag z).size : Int) ≤ 536870912 := by omega
    clear hsz
    obtain ⟨p1, p2, p3, p4⟩ := Y1.two

    by_cases hd0 : d = 0
    · obtain ⟨z', hz'⟩ : ∃ z', z' = z / 256 := ⟨_, rfl⟩
      have ez : z = z' * 256 := by omega
      have hz0' : z' ≠ 0 := by omega
      have hch : (mag z).extract 0 ((mag z).size - 1) = mag z' := by
        have e2 : z.natAbs = z'.natAbs * 256 := by omega
        unfold mag
        rw [e2]
        exact nstr_chop _ (by omega)
      have hn : neg z = neg z' := by unfold neg; congr 1; apply propext; omega
      have hD2 : dy z' (e1 + 8) = D := by
        rw [← hD1, ez]
        have := dy_shl z' e1 8
        exact this.symm
      have hS2 : bsz z' ≤ S := Nat.le_trans (bsz_natAbs_le (by omega)) hS1
      have hb2 := HDE.out z' (e1 + 8) hz0' hD2
      have HK := Lib.hid (And.intro hD2 (And.intro hS2 (And.intro hn (And.intro Y1 (And.intro Y2 (And.intro hB2 (And.intro hz0' (And.intro hch (And.intro hle (And.intro hb1 hb2))))))))))
      clear ez hz0' hn hD2 hS2 Y1 Y2 hB2 hD1 hz' hS1 hd hch hb2
      go_wp2
      obtain ⟨hD2, hS2, hn, Y1, Y2, hB2, hz0', hch, hle, hb1, hb2⟩ := HK.out
      rw [hch]
      refine ⟨⟨z', e1 + 8, hz0', rfl, hD2, by omega, hS2, ?_, Y2.far (p := ⟨w.heap.size, 1, none⟩) (by simp) _, hB2.setCell (Nat.le_refl _) _⟩, by simp only [intOf]; omega⟩
      have := Y1.set 1 (.string (mag z'))
      rw [← hn]; exact this
    · have HK := Lib.hid (And.intro Y1 (And.intro Y2 (And.intro hB2 (And.intro hD1 (And.intro hle (And.intro hS1 (And.intro h0 hb1)))))))
      clear Y1 Y2 hB2 hD1 hle hS1 h0 hb1 hd hv0 hpos
      go_wp2_with fail
      go_loopw [1] (fun ev wr => ∃ z e1 : Int, z ≠ 0 ∧ ev = .int .i64 e1 ∧ dy z e1 = D ∧ e ≤ e1 ∧ bsz z ≤ S ∧ Bx wr w.heap.size 23 #[.bool (neg (z)), .string (mag (z))] ∧ Bx wr (w.heap.size + 1) 25 #[.bool false, .string ⟨#[]⟩, .int .i64 0] ∧ Below w.heap.size w wr) (fun ev _ => (de D - intOf ev).toNat)
      case atStart =>
        obtain ⟨Y1, Y2, hB2, hD1, hle, hS1, h0, hb1⟩ := HK.out
        exact ⟨z, e1, h0, rfl, hD1, hle, hS1, Y1, Y2, hB2⟩
      case round =>
        clear HK
        obtain ⟨z, e1, h0, rfl, hD1, hle, hS1, Y1, Y2, hB2⟩ := hrel
        have hb1 := HDE.out z e1 h0 hD1
        have hv0 : z.natAbs ≠ 0 := by omega
        have hsz : (mag z).size = bsz z := mag_size z
        have hpos : 0 < bsz z := nd_pos (k := 8) hv0
        obtain ⟨d, hd⟩ : ∃ d : Int, d = ((z.natAbs % 256 : Nat) : Int) := ⟨_, rfl⟩
        have hd2 : d < 256 := by omega
        have hd3 : 0 ≤ d := by omega
        have hidx : ∀ W, (Instr.index 9 (.string (mag z)) (.int .i64 (((mag z).size : Int) - 1))).run Tryz.prog W = .ok (.int .u8 d) W := fun W => by
          rw [run_index_at (mag z) Tryz.underlying9 .i64 _ ((mag z).size - 1) (by omega) (by omega)]
          rw [hd]
          congr 3
          exact last_byte z.natAbs hv0 _
        have hge : (1 : Int) ≤ ((mag z).size : Int) := by omega
        have hlb : ((mag z).size : Int) ≤ 536870912 := by omega
        clear hsz
        obtain ⟨p1, p2, p3, p4⟩ := Y1.two
        by_cases hd1 : d % 2 = 0
        · have cD := Lib.hid (cD0.out z hS1)
          obtain ⟨z2, hz2⟩ : ∃ z2, z2 = z / 2 := ⟨_, rfl⟩
          obtain ⟨r2, hr2⟩ : ∃ r2, r2 = z % 2 := ⟨_, rfl⟩
          rw [← hz2, ← hr2] at cD
          have ez : z = z2 * 2 := by omega
          have hz0' : z2 ≠ 0 := by omega
          have hD2 : dy z2 (e1 + 1) = D := by
            rw [← hD1, ez]
            have := dy_shl z2 e1 1
            exact this.symm
          have hS2 : bsz z2 ≤ S := Nat.le_trans (bsz_natAbs_le (by omega)) hS1
          have hb2 := HDE.out z2 (e1 + 1) hz0' hD2
          have HL := Lib.hid (And.intro hD2 (And.intro hS2 (And.intro Y1 (And.intro Y2 (And.intro hB2 (And.intro hz0' (And.intro hle (And.intro hb1 hb2))))))))
          clear ez hz0' hD2 hS2 Y1 Y2 hB2 hD1 hS1 hd hz2 hr2 hv0 hpos
          go_wp2_with fail
          obtain ⟨hD2, hS2, Y1, Y2, hB2, hz0', hle, hb1, hb2⟩ := HL.out
          refine wp_region_kl [39, 40, 41, 38, 42, 43, 44] [.eq (.agg #[.bool (neg (z)), .string (mag (z))]), .eq (.agg #[.bool (neg (2)), .string (mag (2))]), .eq (.tuple #[.agg #[.bool (neg (z2)), .string (mag (z2))], .agg #[.bool (neg (r2)), .string (mag (r2))], .bool true]), .eq (.tuple #[.agg #[.bool (neg (z2)), .string (mag (z2))], .agg #[.bool (neg (r2)), .string (mag (r2))], .bool true]), .eq (.agg #[.bool (neg (z2)), .string (mag (z2))]), .eq (.agg #[.bool (neg (r2)), .string (mag (r2))]), .eq (.bool true)] [5, 6] 50 (by kernel_rfl) (by exact fun _ _ _ _ _ h => h) (by kernel_rfl) (by rfl) ?hop ?hlate ?htail
          case hop =>
            intro A hA
            have hN : A.tmps.size = 50 := by rw [hA]; rfl
            have q2 : A.tmps.getD 2 undef = .pointer (some ⟨w.heap.size, 0, none⟩) := by rw [hA]; rfl
            clear hA
            refine ⟨?_, ?_, ?_, ?_, ?_, ?_, ?_, trivial⟩
            · refine kok hN fun u W ev ec ef E B hG hf => ?_
              exact k_val _ rfl rfl hG (by simp [go_sem, B 2 rfl rfl q2, (Y1.later hG).cel]) rfl
            · refine kok hN fun u W ev ec ef E B hG hf => ?_
              exact k_cl rfl rfl (by simp [go_sem, ec, ef]) (cO.out W) hG (fun _ _ => rfl)
            · refine kok hN fun u W ev ec ef E B hG hf => ?_
              exact k_cl rfl rfl (by simp [go_sem, ef, E 39 0 rfl rfl (hf 0 rfl), E 40 1 rfl rfl (hf 1 rfl)]) (cD.out W) hG (fun _ _ => rfl)
            · refine kok hN fun u W ev ec ef E B hG hf => ?_
              exact k_val _ rfl rfl hG (by simp [go_sem, E 41 2 rfl rfl (hf 2 rfl)]) rfl
            · refine kok hN fun u W ev ec ef E B hG hf => ?_
              exact k_val _ rfl rfl hG (by simp [go_sem, E 38 3 rfl rfl (hf 3 rfl)]) rfl
            · refine kok hN fun u W ev ec ef E B hG hf => ?_
              exact k_val _ rfl rfl hG (by simp [go_sem, E 38 3 rfl rfl (hf 3 rfl)]) rfl
            · refine kok hN fun u W ev ec ef E B hG hf => ?_
              exact k_val _ rfl rfl hG (by simp [go_sem, E 38 3 rfl rfl (hf 3 rfl)]) rfl
          case hlate =>
            intro A hA
            have hN : A.tmps.size = 50 := by rw [hA]; rfl
            clear hA
            refine ⟨trivial, trivial, trivial, trivial, trivial, ⟨rfl, ?_⟩, ⟨rfl, ?_⟩, trivial⟩
            · intro u W hf
              have e38 := frm_head (a := A) (ds := [39, 40, 41, 38, 42, 43, 44]) (u := u) (k := 38) (i := 3) (by rw [hN]; decide) rfl (hf 3 (by decide))
              generalize (frm A [39, 40, 41, 38, 42, 43, 44] u).eval = ev at *
              exact ⟨_, rfl, fun w => (by simp [go_sem, e38]), rfl⟩
            · intro u W hf
              have e38 := frm_head (a := A) (ds := [39, 40, 41, 38, 42, 43, 44]) (u := u) (k := 38) (i := 3) (by rw [hN]; decide) rfl (hf 3 (by decide))
              generalize (frm A [39, 40, 41, 38, 42, 43, 44] u).eval = ev at *
              exact ⟨_, rfl, fun w => (by simp [go_sem, e38]), rfl⟩
          case htail =>
            intro u w' hG hP hD
            have f42 : u 4 = .agg #[.bool (neg (z2)), .string (mag (z2))] := hP 4 (by decide)
            simp only [putAll, Act.put, List.setIfInBounds_toArray, List.set_cons_zero, List.set_cons_succ, List.length_cons, List.length_nil, Nat.reduceAdd, List.drop_succ_cons, List.drop_zero, f42]
            replace Y1 := Y1.later hG
            replace Y2 := Y2.later hG
            replace hB2 := nxt hB2 hG
            obtain ⟨q1, q2, q3, q4⟩ := Y1.two
            have HM := Lib.hid (And.intro Y1 (And.intro Y2 hB2))
            clear hP hD hG f42 Y1 Y2 hB2
            go_wp2
            obtain ⟨Y1, Y2, hB2⟩ := HM.out
            exact ⟨⟨z2, e1 + 1, hz0', rfl, hD2, by omega, hS2, Y1.set2 _ _, Bx.far2 Y2 (by simp) _ _, st2 hB2 (Nat.le_refl _) _ _⟩, by simp only [intOf]; omega⟩
        · have hodd : z % 2 = 1 := by omega
          have hfin := dy_of_odd e1 hodd
          rw [hD1] at hfin
          have HF := Lib.hid hfin
          obtain ⟨q1, q2, q5, q3, q4, q6⟩ := Y2.three
          have HY := Lib.hid (And.intro Y2 hB2)
          clear hd hodd hfin Y2 hB2 hD1 hv0 hpos hS1 h0 Y1
          go_wp2_with fail
          obtain ⟨Y2, hB2⟩ := HY.out
          rw [HF.out.1, HF.out.2]
          exact bodyPost_ret (v := .agg #[.bool (neg z), .string (mag z), .int .i64 e1]) (by simp [results, Tryz.results86, go_sem, (Y2.set3 _ _ _).cel]) rfl ⟨rfl, st3 hB2 (Nat.le_add_right _ 1) _ _ _⟩

set_option maxRecDepth 100000 in
set_option maxHeartbeats 1000000 in
theorem rMake_zero (s : ByteArray) (b : Bool) (e : Int) (w : World)
    (cF : Hid (∀ W : World, Calls Tryz.prog 126 #[.agg #[.bool b, .string s]] W fun r w' => r = .returned (.agg #[.bool false, .string ⟨#[]⟩]) ∧ Below W.heap.size W w'))
    :
    Calls Tryz.prog 86 #[.agg #[.bool b, .string s], .int .i64 e] w fun r w' => r = .returned (.agg #[.bool false, .string ⟨#[]⟩, .int .i64 0]) ∧ Below w.heap.size w w' := by
  go_enter Tryz.func86, Tryz.ntmps86
  go_upto_region 1 with (fail)
  have X1 := (Bx.new w 23 #[.bool b, .string s]).alloc (.cells #[.bool false, .string ⟨#[]⟩, .int .i64 0] 25)
  have X2 := Bx.at1 w (.cells #[.bool b, .string s] 23) 25 #[.bool false, .string ⟨#[]⟩, .int .i64 0]
  have hB := b2 w (.cells #[.bool b, .string s] 23) (.cells #[.bool false, .string ⟨#[]⟩, .int .i64 0] 25)
  generalize (w.alloc (.cells #[.bool b, .string s] 23)).alloc (.cells #[.bool false, .string ⟨#[]⟩, .int .i64 0] 25) = w0 at *
  have hl0 := X1.lt
  have hl1 := X2.lt
  obtain ⟨p1, p2, p3, p4⟩ := X1.two
  obtain ⟨q1, q2, q5, q3, q4, q6⟩ := X2.three
  go_wp2_with fail
  refine (cF.out _).mono ?_
  rintro e w1 ⟨rfl, hb⟩
  replace X1 := X1.later hb
  replace X2 := X2.later hb
  replace hB := nxt hB hb
  clear hb p1 p2 p3 p4 q1 q2 q5 q3 q4 q6
  obtain ⟨p1, p2, p3, p4⟩ := X1.two
  have hne : w.heap.size + 1 ≠ w.heap.size := by omega
  have Y1 := X1.set2 (.bool false) (.string ⟨#[]⟩)
  have Y2 := Bx.far2 (i := 0) (j := 1) X2 hne (.bool false) (.string ⟨#[]⟩)
  have HB := Lib.hid (And.intro Y2 (st2 hB (Nat.le_refl _) (.bool false) (.string ⟨#[]⟩)))
  obtain ⟨r1, r2, r3, r4⟩ := Y1.two
  obtain ⟨q1, q2, q5, q3, q4, q6⟩ := Y2.three
  clear X1 X2 Y1 Y2 hB hne
  go_wp2_with fail
  obtain ⟨Y2, hB⟩ := HB.out
  exact bodyPost_ret (v := .agg #[.bool false, .string ⟨#[]⟩, .int .i64 0]) (by simp [results, Tryz.results86, go_sem, (Y2.set3 _ _ _).cel]) rfl ⟨rfl, st3 hB (Nat.le_add_right _ 1) _ _ _⟩
theorem rMake_any (s : ByteArray) (b : Bool) (e : Int) (w : World) (hs : s.size ≤ 8388608) (he1 : -1073741824 ≤ e) (he2 : e ≤ 4611686018427387 ) :
    Calls Tryz.prog 86 #[.agg #[.bool b, .string s], .int .i64 e] w fun r w' => r = .returned (.agg #[.bool (neg (dm (dy (ival b (sval s)) e))), .string (mag (dm (dy (ival b (sval s)) e))), .int .i64 (de (dy (ival b (sval s)) e))]) ∧ Below w.heap.size w w' := by
  have cF := Lib.hid (fun W => rForm_any s b W (by omega))
  have hb := bsz_ival b s
  by_cases hz : ival b (sval s) = 0
  · rw [hz, dy_zero]
    rw [hz] at cF
    exact rMake_zero s b e w cF
  · have heD := (dm_dy e hz).2
    have ht := tz_size (s := s) (fun h0 => hz (by rw [h0, ival_zero]))
    rw [ival_natAbs] at heD
    refine rMake_some s b e _ _ s.size w hz rfl hb hs (by omega) (by omega) cF (Lib.hid fun W => rWOf_any 2 W (by decide) (by decide)) (Lib.hid fun z hzS W => ?_)
    have c := rWDiv_any (mag z) (mag 2) (neg z) (neg 2) W (by rw [mag_size]; omega) (by decide)
    rw [ival_mk, ival_mk] at c
    rwa [if_neg (by rw [sval_mag]; decide)] at c

end Go.Proofs.YtchfglbkiebfpaaGreatDoor

namespace Go.Proofs.YtchfglbkiebfpaaGreatDoor
open Go.RowKit

set_option maxRecDepth 100000 in
set_option maxHeartbeats 1000000 in
theorem rdForm_x (s : ByteArray) (b : Bool) (e : Int) (x : Dyadic) (w : World)
    (cM : Hid (∀ W : World, Calls Tryz.prog 86 #[.agg #[.bool b, .string s], .int .i64 e] W fun r w' => r = .returned (.agg #[.bool (neg (dm (x))), .string (mag (dm (x))), .int .i64 (de (x))]) ∧ Below W.heap.size W w'))
    :
    Calls Tryz.prog 82 #[.agg #[.bool b, .string s, .int .i64 e]] w fun r w' => r = .returned (.agg #[.bool (neg (dm (x))), .string (mag (dm (x))), .int .i64 (de (x))]) ∧ Below w.heap.size w w' := by
  go_enter Tryz.func82, Tryz.ntmps82
  go_upto_region 1 with (fail)
  have X1 := (Bx.new w 25 #[.bool b, .string s, .int .i64 e]).alloc (.cells #[.bool false, .string ⟨#[]⟩, .int .i64 0] 25)
  have X2 := Bx.at1 w (.cells #[.bool b, .string s, .int .i64 e] 25) 25 #[.bool false, .string ⟨#[]⟩, .int .i64 0]
  have hB := b2 w (.cells #[.bool b, .string s, .int .i64 e] 25) (.cells #[.bool false, .string ⟨#[]⟩, .int .i64 0] 25)
  generalize (w.alloc (.cells #[.bool b, .string s, .int .i64 e] 25)).alloc (.cells #[.bool false, .string ⟨#[]⟩, .int .i64 0] 25) = w0 at *
  have hl0 := X1.lt
  have hl1 := X2.lt
  obtain ⟨p1, p2, p5, p3, p4, p6⟩ := X1.three
  obtain ⟨q1, q2, q5, q3, q4, q6⟩ := X2.three
  go_wp2_with fail
  refine (cM.out _).mono ?_
  rintro e w1 ⟨rfl, hb⟩
  replace X1 := X1.later hb
  replace X2 := X2.later hb
  replace hB := nxt hB hb
  clear hb
  clear p1 p2 p3 p4 p5 p6 q1 q2 q3 q4 q5 q6
  obtain ⟨p1, p2, p5, p3, p4, p6⟩ := X1.three
  obtain ⟨q1, q2, q5, q3, q4, q6⟩ := X2.three
  go_wp2_with fail
  exact bodyPost_ret (v := .agg #[.bool (neg (dm (x))), .string (mag (dm (x))), .int .i64 (de (x))]) (by simp [results, Tryz.results82, go_sem, (X2.set3 _ _ _).cel]) rfl ⟨rfl, st3 hB (Nat.le_add_right _ 1) _ _ _⟩
theorem rdForm_any (s : ByteArray) (b : Bool) (e : Int) (w : World) (hs : s.size ≤ 8388608) (he1 : -1073741824 ≤ e) (he2 : e ≤ 4611686018427387) :
    Calls Tryz.prog 82 #[.agg #[.bool b, .string s, .int .i64 e]] w fun r w' => r = .returned (.agg #[.bool (neg (dm (dy (ival b (sval s)) e))), .string (mag (dm (dy (ival b (sval s)) e))), .int .i64 (de (dy (ival b (sval s)) e))]) ∧ Below w.heap.size w w' := by
  exact rdForm_x s b e _ w (Lib.hid fun W => rMake_any s b e W hs he1 he2)

set_option maxRecDepth 100000 in
set_option maxHeartbeats 1000000 in
theorem rdSign_any (s : ByteArray) (b : Bool) (e : Int) (w : World) (hs : s.size ≤ 8388608) :
    Calls Tryz.prog 24 #[.agg #[.bool b, .string s, .int .i64 e]] w fun r w' => r = .returned (.int .i64 (dsgn (dy (ival b (sval s)) e))) ∧ Below w.heap.size w w' := by
  rw [dsgn_dy]
  have cG := Lib.hid (fun W => rWSign_any s b W (by omega))
  generalize sgn (ival b (sval s)) = g at *
  go_enter Tryz.func24, Tryz.ntmps24
  go_upto_region 1 with (fail)
  have X1 := Bx.new w 25 #[.bool b, .string s, .int .i64 e]
  have hB := b1 w (.cells #[.bool b, .string s, .int .i64 e] 25)
  generalize w.alloc (.cells #[.bool b, .string s, .int .i64 e] 25) = w0 at *
  have hl0 := X1.lt
  obtain ⟨p1, p2, p5, p3, p4, p6⟩ := X1.three
  go_wp2_with fail
  refine (cG.out _).mono ?_
  rintro e w1 ⟨rfl, hb⟩
  replace X1 := X1.later hb
  replace hB := nxt hB hb
  clear hb
  clear p1 p2 p3 p4 p5 p6
  obtain ⟨p1, p2, p5, p3, p4, p6⟩ := X1.three
  go_wp2
  go_ret
  exact ⟨rfl, hB⟩
set_option maxRecDepth 100000 in
set_option maxHeartbeats 1000000 in
theorem rdShift_x (s : ByteArray) (b : Bool) (e n : Int) (x : Dyadic) (w : World) (hw : IntKind.i64.wrap (e + n) = e + n)
    (cM : Hid (∀ W : World, Calls Tryz.prog 86 #[.agg #[.bool b, .string s], .int .i64 (e + n)] W fun r w' => r = .returned (.agg #[.bool (neg (dm (x))), .string (mag (dm (x))), .int .i64 (de (x))]) ∧ Below W.heap.size W w'))
    :
    Calls Tryz.prog 83 #[.agg #[.bool b, .string s, .int .i64 e], .int .i64 n] w fun r w' => r = .returned (.agg #[.bool (neg (dm (x))), .string (mag (dm (x))), .int .i64 (de (x))]) ∧ Below w.heap.size w w' := by
  go_enter Tryz.func83, Tryz.ntmps83
  go_upto_region 1 with (fail)
  have X1 := (Bx.new w 25 #[.bool b, .string s, .int .i64 e]).alloc (.cells #[.bool false, .string ⟨#[]⟩, .int .i64 0] 25)
  have X2 := Bx.at1 w (.cells #[.bool b, .string s, .int .i64 e] 25) 25 #[.bool false, .string ⟨#[]⟩, .int .i64 0]
  have hB := b2 w (.cells #[.bool b, .string s, .int .i64 e] 25) (.cells #[.bool false, .string ⟨#[]⟩, .int .i64 0] 25)
  generalize (w.alloc (.cells #[.bool b, .string s, .int .i64 e] 25)).alloc (.cells #[.bool false, .string ⟨#[]⟩, .int .i64 0] 25) = w0 at *
  have hl0 := X1.lt
  have hl1 := X2.lt
  obtain ⟨p1, p2, p5, p3, p4, p6⟩ := X1.three
  obtain ⟨q1, q2, q5, q3, q4, q6⟩ := X2.three
  go_wp2_with fail
  refine (cM.out _).mono ?_
  rintro e w1 ⟨rfl, hb⟩
  replace X1 := X1.later hb
  replace X2 := X2.later hb
  replace hB := nxt hB hb
  clear hb
  clear p1 p2 p3 p4 p5 p6 q1 q2 q3 q4 q5 q6
  obtain ⟨p1, p2, p5, p3, p4, p6⟩ := X1.three
  obtain ⟨q1, q2, q5, q3, q4, q6⟩ := X2.three
  go_wp2_with fail
  exact bodyPost_ret (v := .agg #[.bool (neg (dm (x))), .string (mag (dm (x))), .int .i64 (de (x))]) (by simp [results, Tryz.results83, go_sem, (X2.set3 _ _ _).cel]) rfl ⟨rfl, st3 hB (Nat.le_add_right _ 1) _ _ _⟩
theorem rdShift_any (s : ByteArray) (b : Bool) (e n : Int) (w : World) (hs : s.size ≤ 8388608) (he1 : -1073741824 ≤ e + n) (he2 : e + n ≤ 4611686018427387) :
    Calls Tryz.prog 83 #[.agg #[.bool b, .string s, .int .i64 e], .int .i64 n] w fun r w' => r = .returned (.agg #[.bool (neg (dm (dy (ival b (sval s)) (e + n)))), .string (mag (dm (dy (ival b (sval s)) (e + n)))), .int .i64 (de (dy (ival b (sval s)) (e + n)))]) ∧ Below w.heap.size w w' := by
  exact rdShift_x s b e n _ w (IntWalk.i64_in _ (by omega)) (Lib.hid fun W => rMake_any s b (e + n) W hs he1 he2)

set_option maxRecDepth 100000 in
theorem rdNeg_x (s : ByteArray) (b : Bool) (e m : Int) (x : Dyadic) (w : World)
    (cN : Hid (∀ W : World, Calls Tryz.prog 120 #[.agg #[.bool b, .string s]] W fun r w' => r = .returned (.agg #[.bool (neg (m)), .string (mag (m))]) ∧ Below W.heap.size W w'))
    (cM : Hid (∀ W : World, Calls Tryz.prog 86 #[.agg #[.bool (neg (m)), .string (mag (m))], .int .i64 e] W fun r w' => r = .returned (.agg #[.bool (neg (dm (x))), .string (mag (dm (x))), .int .i64 (de (x))]) ∧ Below W.heap.size W w'))
    :
    Calls Tryz.prog 75 #[.agg #[.bool b, .string s, .int .i64 e]] w fun r w' => r = .returned (.agg #[.bool (neg (dm (x))), .string (mag (dm (x))), .int .i64 (de (x))]) ∧ Below w.heap.size w w' :=
  RetAt.at <| ret_sk ttOk mixed (fun a w => Tryz.call75 a w) Tryz.func75 Tryz.ntmps75 Tryz.results75 _ rfl _ [.reg 6 [], .o 1 2 (.ret (.agg [.val (.bool (neg (m))), .val (.string (mag (m)))])), .o 1 5 (.ret (.val (vN (x))))] (fun W hW hR => ai (rc W Tryz.call120 fun W => cN.out W) <| ai (rc W Tryz.call86 fun W => cM.out W) <| hR) fun W => by kernel_rfl

theorem rdNeg_any (s : ByteArray) (b : Bool) (e : Int) (w : World) (hs : s.size ≤ 8388608) (he1 : -1073741824 ≤ e) (he2 : e ≤ 4611686018427387) :
    Calls Tryz.prog 75 #[.agg #[.bool b, .string s, .int .i64 e]] w fun r w' => r = .returned (.agg #[.bool (neg (dm (-dy (ival b (sval s)) e))), .string (mag (dm (-dy (ival b (sval s)) e))), .int .i64 (de (-dy (ival b (sval s)) e))]) ∧ Below w.heap.size w w' := by
  rw [dy_neg]
  have c := Lib.hid (fun W => rMake_any (mag (-ival b (sval s))) (neg (-ival b (sval s))) e W (by rw [mag_size, bsz_neg]; exact Nat.le_trans (bsz_ival b s) hs) he1 he2)
  rw [ival_mk] at c
  exact rdNeg_x s b e _ _ w (Lib.hid fun W => rWNeg_any s b W (by omega)) c

set_option maxRecDepth 100000 in
theorem rdPlus_zx (s t : ByteArray) (b c : Bool) (e f : Int) (x y : Dyadic) (sx : Int) (hsx : sx = 0) (w : World)
    (cF : Hid (∀ W : World, Calls Tryz.prog 82 #[.agg #[.bool b, .string s, .int .i64 e]] W fun r w' => r = .returned (.agg #[.bool (neg (dm (x))), .string (mag (dm (x))), .int .i64 (de (x))]) ∧ Below W.heap.size W w'))
    (cG : Hid (∀ W : World, Calls Tryz.prog 82 #[.agg #[.bool c, .string t, .int .i64 f]] W fun r w' => r = .returned (.agg #[.bool (neg (dm (y))), .string (mag (dm (y))), .int .i64 (de (y))]) ∧ Below W.heap.size W w'))
    (cS : Hid (∀ W : World, Calls Tryz.prog 24 #[.agg #[.bool (neg (dm (x))), .string (mag (dm (x))), .int .i64 (de (x))]] W fun r w' => r = .returned (.int .i64 sx) ∧ Below W.heap.size W w'))
    :
    Calls Tryz.prog 105 #[.agg #[.bool b, .string s, .int .i64 e], .agg #[.bool c, .string t, .int .i64 f]] w fun r w' => r = .returned (.agg #[.bool (neg (dm (y))), .string (mag (dm (y))), .int .i64 (de (y))]) ∧ Below w.heap.size w w' :=
  RetAt.at <| ret_sk ttOk mixed (fun a w => Tryz.call105 a w) Tryz.func105 Tryz.ntmps105 Tryz.results105 _ rfl _ [.reg 4 [], .o 1 1 (.ret (.val (vN (x)))), .o 1 3 (.ret (.val (vN (y)))), .o 2 1 (.ret (.val (.int .i64 sx))), .br true] (fun W hW hR => ai (rc W Tryz.call82 fun W => cF.out W) <| ai (rc W Tryz.call82 fun W => cG.out W) <| ai (rc W Tryz.call24 fun W => cS.out W) <| ai (eq_y hsx) <| hR) fun W => by kernel_rfl

set_option maxRecDepth 100000 in
theorem rdPlus_zy (s t : ByteArray) (b c : Bool) (e f : Int) (x y : Dyadic) (sx sy : Int) (hsx : ¬ sx = 0) (hsy : sy = 0) (w : World)
    (cF : Hid (∀ W : World, Calls Tryz.prog 82 #[.agg #[.bool b, .string s, .int .i64 e]] W fun r w' => r = .returned (.agg #[.bool (neg (dm (x))), .string (mag (dm (x))), .int .i64 (de (x))]) ∧ Below W.heap.size W w'))
    (cG : Hid (∀ W : World, Calls Tryz.prog 82 #[.agg #[.bool c, .string t, .int .i64 f]] W fun r w' => r = .returned (.agg #[.bool (neg (dm (y))), .string (mag (dm (y))), .int .i64 (de (y))]) ∧ Below W.heap.size W w'))
    (cS : Hid (∀ W : World, Calls Tryz.prog 24 #[.agg #[.bool (neg (dm (x))), .string (mag (dm (x))), .int .i64 (de (x))]] W fun r w' => r = .returned (.int .i64 sx) ∧ Below W.heap.size W w'))
    (cT : Hid (∀ W : World, Calls Tryz.prog 24 #[.agg #[.bool (neg (dm (y))), .string (mag (dm (y))), .int .i64 (de (y))]] W fun r w' => r = .returned (.int .i64 sy) ∧ Below W.heap.size W w'))
    :
    Calls Tryz.prog 105 #[.agg #[.bool b, .string s, .int .i64 e], .agg #[.bool c, .string t, .int .i64 f]] w fun r w' => r = .returned (.agg #[.bool (neg (dm (x))), .string (mag (dm (x))), .int .i64 (de (x))]) ∧ Below w.heap.size w w' :=
  RetAt.at <| ret_sk ttOk mixed (fun a w => Tryz.call105 a w) Tryz.func105 Tryz.ntmps105 Tryz.results105 _ rfl _ [.reg 4 [], .o 1 1 (.ret (.val (vN (x)))), .o 1 3 (.ret (.val (vN (y)))), .o 2 1 (.ret (.val (.int .i64 sx))), .br false, .o 4 1 (.ret (.val (.int .i64 sy))), .br true] (fun W hW hR => ai (rc W Tryz.call82 fun W => cF.out W) <| ai (rc W Tryz.call82 fun W => cG.out W) <| ai (rc W Tryz.call24 fun W => cS.out W) <| ai (eq_n hsx) <| ai (rc W Tryz.call24 fun W => cT.out W) <| ai (eq_y hsy) <| hR) fun W => by kernel_rfl

set_option maxRecDepth 100000 in
theorem rdPlus_ge (s t : ByteArray) (b c : Bool) (e f : Int) (x y : Dyadic) (sx sy d m q : Int) (z : Dyadic) (hsx : ¬ sx = 0) (hsy : ¬ sy = 0) (hge : ¬ de x < de y) (hw : IntKind.i64.wrap (de x - de y) = d) (w : World)
    (cF : Hid (∀ W : World, Calls Tryz.prog 82 #[.agg #[.bool b, .string s, .int .i64 e]] W fun r w' => r = .returned (.agg #[.bool (neg (dm (x))), .string (mag (dm (x))), .int .i64 (de (x))]) ∧ Below W.heap.size W w'))
    (cG : Hid (∀ W : World, Calls Tryz.prog 82 #[.agg #[.bool c, .string t, .int .i64 f]] W fun r w' => r = .returned (.agg #[.bool (neg (dm (y))), .string (mag (dm (y))), .int .i64 (de (y))]) ∧ Below W.heap.size W w'))
    (cS : Hid (∀ W : World, Calls Tryz.prog 24 #[.agg #[.bool (neg (dm (x))), .string (mag (dm (x))), .int .i64 (de (x))]] W fun r w' => r = .returned (.int .i64 sx) ∧ Below W.heap.size W w'))
    (cT : Hid (∀ W : World, Calls Tryz.prog 24 #[.agg #[.bool (neg (dm (y))), .string (mag (dm (y))), .int .i64 (de (y))]] W fun r w' => r = .returned (.int .i64 sy) ∧ Below W.heap.size W w'))
    (cH : Hid (∀ W : World, Calls Tryz.prog 85 #[.agg #[.bool (neg (dm (x))), .string (mag (dm (x)))], .int .i64 d] W fun r w' => r = .returned (.agg #[.bool (neg (m)), .string (mag (m))]) ∧ Below W.heap.size W w'))
    (cP : Hid (∀ W : World, Calls Tryz.prog 87 #[.agg #[.bool (neg (m)), .string (mag (m))], .agg #[.bool (neg (dm (y))), .string (mag (dm (y)))]] W fun r w' => r = .returned (.agg #[.bool (neg (q)), .string (mag (q))]) ∧ Below W.heap.size W w'))
    (cM : Hid (∀ W : World, Calls Tryz.prog 86 #[.agg #[.bool (neg (q)), .string (mag (q))], .int .i64 (de (y))] W fun r w' => r = .returned (.agg #[.bool (neg (dm (z))), .string (mag (dm (z))), .int .i64 (de (z))]) ∧ Below W.heap.size W w'))
    :
    Calls Tryz.prog 105 #[.agg #[.bool b, .string s, .int .i64 e], .agg #[.bool c, .string t, .int .i64 f]] w fun r w' => r = .returned (.agg #[.bool (neg (dm (z))), .string (mag (dm (z))), .int .i64 (de (z))]) ∧ Below w.heap.size w w' :=
  RetAt.at <| ret_sk ttOk mixed (fun a w => Tryz.call105 a w) Tryz.func105 Tryz.ntmps105 Tryz.results105 _ rfl _ [.reg 4 [], .o 1 1 (.ret (.val (vN (x)))), .o 1 3 (.ret (.val (vN (y)))), .o 2 1 (.ret (.val (.int .i64 sx))), .br false, .o 4 1 (.ret (.val (.int .i64 sy))), .br false, .br false, .reg 14 [], .o 8 6 (.eq (.val (.int .i64 d))), .o 8 7 (.ret (.agg [.val (.bool (neg (m))), .val (.string (mag (m)))])), .o 8 10 (.ret (.agg [.val (.bool (neg (q))), .val (.string (mag (q)))])), .o 8 13 (.ret (.val (vN (z))))] (fun W hW hR => ai (rc W Tryz.call82 fun W => cF.out W) <| ai (rc W Tryz.call82 fun W => cG.out W) <| ai (rc W Tryz.call24 fun W => cS.out W) <| ai (eq_n hsx) <| ai (rc W Tryz.call24 fun W => cT.out W) <| ai (eq_n hsy) <| ai (lt_n hge) <| ai hw <| ai (rc W Tryz.call85 fun W => cH.out W) <| ai (rc W Tryz.call87 fun W => cP.out W) <| ai (rc W Tryz.call86 fun W => cM.out W) <| hR) fun W => by kernel_rfl

set_option maxRecDepth 100000 in
theorem rdPlus_lt (s t : ByteArray) (b c : Bool) (e f : Int) (x y : Dyadic) (sx sy d m q : Int) (z : Dyadic) (hsx : ¬ sx = 0) (hsy : ¬ sy = 0) (hlt : de x < de y) (hw : IntKind.i64.wrap (de y - de x) = d) (w : World)
    (cF : Hid (∀ W : World, Calls Tryz.prog 82 #[.agg #[.bool b, .string s, .int .i64 e]] W fun r w' => r = .returned (.agg #[.bool (neg (dm (x))), .string (mag (dm (x))), .int .i64 (de (x))]) ∧ Below W.heap.size W w'))
    (cG : Hid (∀ W : World, Calls Tryz.prog 82 #[.agg #[.bool c, .string t, .int .i64 f]] W fun r w' => r = .returned (.agg #[.bool (neg (dm (y))), .string (mag (dm (y))), .int .i64 (de (y))]) ∧ Below W.heap.size W w'))
    (cS : Hid (∀ W : World, Calls Tryz.prog 24 #[.agg #[.bool (neg (dm (x))), .string (mag (dm (x))), .int .i64 (de (x))]] W fun r w' => r = .returned (.int .i64 sx) ∧ Below W.heap.size W w'))
    (cT : Hid (∀ W : World, Calls Tryz.prog 24 #[.agg #[.bool (neg (dm (y))), .string (mag (dm (y))), .int .i64 (de (y))]] W fun r w' => r = .returned (.int .i64 sy) ∧ Below W.heap.size W w'))
    (cH : Hid (∀ W : World, Calls Tryz.prog 85 #[.agg #[.bool (neg (dm (y))), .string (mag (dm (y)))], .int .i64 d] W fun r w' => r = .returned (.agg #[.bool (neg (m)), .string (mag (m))]) ∧ Below W.heap.size W w'))
    (cP : Hid (∀ W : World, Calls Tryz.prog 87 #[.agg #[.bool (neg (m)), .string (mag (m))], .agg #[.bool (neg (dm (x))), .string (mag (dm (x)))]] W fun r w' => r = .returned (.agg #[.bool (neg (q)), .string (mag (q))]) ∧ Below W.heap.size W w'))
    (cM : Hid (∀ W : World, Calls Tryz.prog 86 #[.agg #[.bool (neg (q)), .string (mag (q))], .int .i64 (de (x))] W fun r w' => r = .returned (.agg #[.bool (neg (dm (z))), .string (mag (dm (z))), .int .i64 (de (z))]) ∧ Below W.heap.size W w'))
    :
    Calls Tryz.prog 105 #[.agg #[.bool b, .string s, .int .i64 e], .agg #[.bool c, .string t, .int .i64 f]] w fun r w' => r = .returned (.agg #[.bool (neg (dm (z))), .string (mag (dm (z))), .int .i64 (de (z))]) ∧ Below w.heap.size w w' :=
  RetAt.at <| ret_sk ttOk mixed (fun a w => Tryz.call105 a w) Tryz.func105 Tryz.ntmps105 Tryz.results105 _ rfl _ [.reg 4 [], .o 1 1 (.ret (.val (vN (x)))), .o 1 3 (.ret (.val (vN (y)))), .o 2 1 (.ret (.val (.int .i64 sx))), .br false, .o 4 1 (.ret (.val (.int .i64 sy))), .br false, .br true, .reg 14 [], .o 8 6 (.eq (.val (.int .i64 d))), .o 8 7 (.ret (.agg [.val (.bool (neg (m))), .val (.string (mag (m)))])), .o 8 10 (.ret (.agg [.val (.bool (neg (q))), .val (.string (mag (q)))])), .o 8 13 (.ret (.val (vN (z))))] (fun W hW hR => ai (rc W Tryz.call82 fun W => cF.out W) <| ai (rc W Tryz.call82 fun W => cG.out W) <| ai (rc W Tryz.call24 fun W => cS.out W) <| ai (eq_n hsx) <| ai (rc W Tryz.call24 fun W => cT.out W) <| ai (eq_n hsy) <| ai (lt_y hlt) <| ai hw <| ai (rc W Tryz.call85 fun W => cH.out W) <| ai (rc W Tryz.call87 fun W => cP.out W) <| ai (rc W Tryz.call86 fun W => cM.out W) <| hR) fun W => by kernel_rfl

end Go.Proofs.YtchfglbkiebfpaaGreatDoor

