/- The walks and plain laws beneath the statements. -/
import Derived.Test.YtibbhpgpleeglaaGreatDoorPA14
import Derived.Test.YtibbhpgpleeglaaGreatDoorPA15
import Derived.Test.YtibbhpgpleeglaaGreatDoorPA22
namespace Go.Proofs.YtibbhpgpleeglaaGreatDoor
open Go.RowKit

theorem Bx.far3 {w : World} {g g' i j k : Nat} {t : TypeId} {cs : Array Value} (h : Bx w g t cs) (hp : g ≠ g') (u v s : Value) : Bx (((w.setCell ⟨g', i, none⟩ u).setCell ⟨g', j, none⟩ v).setCell ⟨g', k, none⟩ s) g t cs := (h.far2 hp u v).far (p := ⟨g', k, none⟩) hp s
theorem Bx.set5a {w : World} {g : Nat} {t : TypeId} {x0 x1 x2 x3 x4 : Value} (h : Bx w g t #[x0, x1, x2, x3, x4]) (u v : Value) : Bx ((w.setCell ⟨g, 1, none⟩ u).setCell ⟨g, 2, none⟩ v) g t #[x0, u, v, x3, x4] := (h.set 1 u).set 2 v
theorem Bx.set5b {w : World} {g : Nat} {t : TypeId} {x0 x1 x2 x3 x4 : Value} (h : Bx w g t #[x0, x1, x2, x3, x4]) (u v : Value) : Bx ((w.setCell ⟨g, 3, none⟩ u).setCell ⟨g, 4, none⟩ v) g t #[x0, x1, x2, u, v] := (h.set 3 u).set 4 v
theorem Bx.set5 {w : World} {g : Nat} {t : TypeId} {x0 x1 x2 x3 x4 : Value} (h : Bx w g t #[x0, x1, x2, x3, x4]) (a b c d e : Value) : Bx (((((w.setCell ⟨g, 0, none⟩ a).setCell ⟨g, 1, none⟩ b).setCell ⟨g, 2, none⟩ c).setCell ⟨g, 3, none⟩ d).setCell ⟨g, 4, none⟩ e) g t #[a, b, c, d, e] := ((((h.set 0 a).set 1 b).set 2 c).set 3 d).set 4 e
theorem st2' {B : Nat} {a w : World} (h : Below B a w) {g : Nat} (hg : B ≤ g) (i j : Nat) (u v : Value) : Below B a ((w.setCell ⟨g, i, none⟩ u).setCell ⟨g, j, none⟩ v) := (h.setCell hg u).setCell hg v
theorem st5 {B : Nat} {a w : World} (h : Below B a w) {g : Nat} (hg : B ≤ g) (x0 x1 x2 x3 x4 : Value) : Below B a (((((w.setCell ⟨g, 0, none⟩ x0).setCell ⟨g, 1, none⟩ x1).setCell ⟨g, 2, none⟩ x2).setCell ⟨g, 3, none⟩ x3).setCell ⟨g, 4, none⟩ x4) := ((((h.setCell hg x0).setCell hg x1).setCell hg x2).setCell hg x3).setCell hg x4

set_option maxRecDepth 100000 in
theorem dNeg_x (s : ByteArray) (b : Bool) (e m : Int) (x : Dyadic) (w : World) (hT : TabAt 0 Lib.deBruijn64tab w)
    (cN : Hid (∀ W : World, Calls Tryz.prog 38 #[.agg #[.bool b, .string s]] W fun r w' => r = .returned (.agg #[.bool (neg m), .string (mag m)]) ∧ Below W.heap.size W w'))
    (cM : Hid (∀ W : World, TabAt 0 Lib.deBruijn64tab W → Calls Tryz.prog 29 #[.agg #[.bool (neg m), .string (mag m)], .int .i64 e] W fun r w' => r = .returned (.agg #[.bool (neg (dm (x))), .string (mag (dm (x))), .int .i64 (de (x))]) ∧ Below W.heap.size W w'))
    :
    Calls Tryz.prog 17 #[.agg #[.bool b, .string s, .int .i64 e]] w fun r w' => r = .returned (.agg #[.bool (neg (dm (x))), .string (mag (dm (x))), .int .i64 (de (x))]) ∧ Below w.heap.size w w' :=
  RetAt.at <| ret_sk ttOk mixed (fun a w => Tryz.call17 a w) Tryz.func17 Tryz.ntmps17 Tryz.results17 _ rfl _ [.reg 6 [], .o 1 2 (.ret (.agg [.val (.bool (neg m)), .val (.string (mag m))])), .o 1 5 (.ret (.val (vN (x))))] (fun W hW hR => (fun (hT : Tab0 W) => ai (rc W Tryz.call38 fun W => cN.out W) <| ai (rt hT Tryz.call29 fun W h => cM.out W h) <| hR) (tab_keep hT hW)) fun W => by kernel_rfl

theorem dNeg_any (s : ByteArray) (b : Bool) (e : Int) (w : World) (hs : s.size ≤ 536870912) (he1 : -4611686018427387904 ≤ e) (he2 : e ≤ 4611686018427387904) (hT : TabAt 0 Lib.deBruijn64tab w) :
    Calls Tryz.prog 17 #[.agg #[.bool b, .string s, .int .i64 e]] w fun r w' => r = .returned (.agg #[.bool (neg (dm (-dy (ival b (sval s)) e))), .string (mag (dm (-dy (ival b (sval s)) e))), .int .i64 (de (-dy (ival b (sval s)) e))]) ∧ Below w.heap.size w w' := by
  rw [dy_neg]
  have hz : (mag (-ival b (sval s))).size ≤ 536870912 := by rw [mag_size, bsz_neg]; exact Nat.le_trans (bsz_ival b s) hs
  have c := Lib.hid (fun W h => dMake_any (mag (-ival b (sval s))) (neg (-ival b (sval s))) e W hz he1 he2 h)
  rw [ival_mk] at c
  exact dNeg_x s b e _ _ w hT (Lib.hid (fun W => wNeg_any s b W)) c

set_option maxRecDepth 100000 in
set_option maxHeartbeats 1000000 in
theorem dLevel_A (s t : ByteArray) (b c : Bool) (e f : Int) (b2 : Bool) (s2 : ByteArray) (e2 : Int) (X Y : Int) (w : World) (hT : TabAt 0 Lib.deBruijn64tab w)
    (cF : Hid (∀ W : World, TabAt 0 Lib.deBruijn64tab W → Calls Tryz.prog 45 #[.agg #[.bool b, .string s, .int .i64 e]] W fun r w' => r = .returned (.agg #[.bool false, .string ⟨#[]⟩, .int .i64 0]) ∧ Below W.heap.size W w'))
    (cG : Hid (∀ W : World, TabAt 0 Lib.deBruijn64tab W → Calls Tryz.prog 45 #[.agg #[.bool c, .string t, .int .i64 f]] W fun r w' => r = .returned (.agg #[.bool b2, .string s2, .int .i64 e2]) ∧ Below W.heap.size W w'))
    (cU : Hid (∀ W : World, TabAt 0 Lib.deBruijn64tab W → Calls Tryz.prog 106 #[.int .i64 e2, .agg #[.bool false, .string ⟨#[]⟩, .int .i64 0]] W fun r w' => r = .returned (.agg #[.bool (neg X), .string (mag X)]) ∧ Below W.heap.size W w'))
    (cV : Hid (∀ W : World, TabAt 0 Lib.deBruijn64tab W → Calls Tryz.prog 106 #[.int .i64 e2, .agg #[.bool b2, .string s2, .int .i64 e2]] W fun r w' => r = .returned (.agg #[.bool (neg Y), .string (mag Y)]) ∧ Below W.heap.size W w'))
    :
    Calls Tryz.prog 86 #[.agg #[.bool b, .string s, .int .i64 e], .agg #[.bool c, .string t, .int .i64 f]] w fun r w' => r = .returned (.agg #[.int .i64 e2, .bool (neg X), .string (mag X), .bool (neg Y), .string (mag Y)]) ∧ Below w.heap.size w w' := by
  have HT := Lib.hid hT
  clear hT
  go_enter Tryz.func86, Tryz.ntmps86
  go_upto_region 1 with (fail)
  have X1 := ((Bx.new w 29 #[.bool b, .string s, .int .i64 e]).alloc (.cells #[.bool c, .string t, .int .i64 f] 29)).alloc (.cells #[.int .i64 0, .bool false, .string ⟨#[]⟩, .bool false, .string ⟨#[]⟩] 106)
  have X2 := (Bx.at1 w (.cells #[.bool b, .string s, .int .i64 e] 29) 29 #[.bool c, .string t, .int .i64 f]).alloc (.cells #[.int .i64 0, .bool false, .string ⟨#[]⟩, .bool false, .string ⟨#[]⟩] 106)
  have X3 := Bx.at2 w (.cells #[.bool b, .string s, .int .i64 e] 29) (.cells #[.bool c, .string t, .int .i64 f] 29) 106 #[.int .i64 0, .bool false, .string ⟨#[]⟩, .bool false, .string ⟨#[]⟩]
  have hB := b3 w (.cells #[.bool b, .string s, .int .i64 e] 29) (.cells #[.bool c, .string t, .int .i64 f] 29) (.cells #[.int .i64 0, .bool false, .string ⟨#[]⟩, .bool false, .string ⟨#[]⟩] 106)
  generalize ((w.alloc (.cells #[.bool b, .string s, .int .i64 e] 29)).alloc (.cells #[.bool c, .string t, .int .i64 f] 29)).alloc (.cells #[.int .i64 0, .bool false, .string ⟨#[]⟩, .bool false, .string ⟨#[]⟩] 106) = w0 at *
  have hl0 := X1.lt
  have hl1 := X2.lt
  have hl2 := X3.lt
  refine wp_region_k [7, 8, 9, 10] [.eq (.agg #[.bool b, .string s, .int .i64 e]), .eq (.agg #[.bool false, .string ⟨#[]⟩, .int .i64 0]), .eq (.agg #[.bool c, .string t, .int .i64 f]), .eq (.agg #[.bool b2, .string s2, .int .i64 e2])] 41 (by kernel_rfl) (by exact fun _ _ _ _ _ h => h) (by kernel_rfl) (by rfl) ?hop ?htail
  case hop =>
    intro A hA
    have hN : A.tmps.size = 41 := by rw [hA]; rfl
    have q2 : A.tmps.getD 2 undef = .pointer (some ⟨w.heap.size, 0, none⟩) := by rw [hA]; rfl
    have q3 : A.tmps.getD 3 undef = .pointer (some ⟨w.heap.size + 1, 0, none⟩) := by rw [hA]; rfl
    clear hA
    refine ⟨?_, ?_, ?_, ?_, trivial⟩
    · refine kok hN fun u W ev ec ef E B hG hf => ?_
      exact k_val _ rfl rfl hG (by simp [go_sem, B 2 rfl rfl q2, (X1.later hG).cel]) rfl
    · refine kok hN fun u W ev ec ef E B hG hf => ?_
      exact k_cl rfl rfl (by simp [go_sem, ef, E 7 0 rfl rfl (hf 0 rfl)]) (cF.out W (tab_keep HT.out (nxt hB hG))) hG (fun _ _ => rfl)
    · refine kok hN fun u W ev ec ef E B hG hf => ?_
      exact k_val _ rfl rfl hG (by simp [go_sem, B 3 rfl rfl q3, (X2.later hG).cel]) rfl
    · refine kok hN fun u W ev ec ef E B hG hf => ?_
      exact k_cl rfl rfl (by simp [go_sem, ef, E 9 2 rfl rfl (hf 2 rfl)]) (cG.out W (tab_keep HT.out (nxt hB hG))) hG (fun _ _ => rfl)
  case htail =>
    intro u w' hG hP hD
    have f8 : u 1 = .agg #[.bool false, .string ⟨#[]⟩, .int .i64 0] := hP 1 (by decide)
    have f10 : u 3 = .agg #[.bool b2, .string s2, .int .i64 e2] := hP 3 (by decide)
    simp only [putAll, Act.put, List.setIfInBounds_toArray, List.set_cons_zero, List.set_cons_succ, List.length_cons, List.length_nil, Nat.reduceAdd, List.drop_succ_cons, List.drop_zero, f8, f10]
    have hBn := nxt hB hG
    replace X1 := X1.later hG
    replace X2 := X2.later hG
    replace X3 := X3.later hG
    have hne : w.heap.size + 1 ≠ w.heap.size := by omega
    have hne2 : w.heap.size + 2 ≠ w.heap.size := by omega
    have hne3 : w.heap.size + 2 ≠ w.heap.size + 1 := by omega
    have Y2 := Bx.far3 (i := 0) (j := 1) (k := 2) X2 hne (.bool false) (.string ⟨#[]⟩) (.int .i64 0)
    have Z1 := Bx.far3 (i := 0) (j := 1) (k := 2) (X1.set3 (.bool false) (.string ⟨#[]⟩) (.int .i64 0)) (Ne.symm hne) (.bool b2) (.string s2) (.int .i64 e2)
    have Z2 := Y2.set3 (.bool b2) (.string s2) (.int .i64 e2)
    have Z3 := Bx.far3 (i := 0) (j := 1) (k := 2) (Bx.far3 (i := 0) (j := 1) (k := 2) X3 hne2 (.bool false) (.string ⟨#[]⟩) (.int .i64 0)) hne3 (.bool b2) (.string s2) (.int .i64 e2)
    have hB2 := st3 (st3 hBn (Nat.le_refl _) (.bool false) (.string ⟨#[]⟩) (.int .i64 0)) (Nat.le_add_right _ 1) (.bool b2) (.string s2) (.int .i64 e2)
    obtain ⟨p1, p2, p5, p3, p4, p6⟩ := X1.three
    obtain ⟨q1, q2, q5, q3, q4, q6⟩ := Y2.three
    have HK := Lib.hid (And.intro Z1 (And.intro Z2 (And.intro Z3 hB2)))
    clear f8 f10 hP hD hG hB hBn X1 X2 X3 Y2 Z1 Z2 Z3 hB2 hne hne2 hne3
    go_upto_region 2 with (fail)
    obtain ⟨X1, X2, X3, hB⟩ := HK.out
    clear HK p1 p2 p5 p3 p4 p6 q1 q2 q5 q3 q4 q6
    generalize (((((w'.setCell ⟨w.heap.size, 0, none⟩ (.bool false)).setCell ⟨w.heap.size, 1, none⟩ (.string ⟨#[]⟩)).setCell ⟨w.heap.size, 2, none⟩ (.int .i64 0)).setCell ⟨w.heap.size + 1, 0, none⟩ (.bool b2)).setCell ⟨w.heap.size + 1, 1, none⟩ (.string s2)).setCell ⟨w.heap.size + 1, 2, none⟩ (.int .i64 e2) = w2 at *
    obtain ⟨p1, p2, p5, p3, p4, p6⟩ := X1.three
    obtain ⟨q1, q2, q5, q3, q4, q6⟩ := X2.three
    have l1 := X1.lt
    have l2 := X2.lt
    have l3 := X3.lt
    have X4 := Bx.new w2 106 #[.int .i64 e2, .bool false, .string ⟨#[]⟩, .bool false, .string ⟨#[]⟩]
    have HK := Lib.hid (And.intro (X1.alloc (.cells #[.int .i64 e2, .bool false, .string ⟨#[]⟩, .bool false, .string ⟨#[]⟩] 106)) (And.intro (X2.alloc (.cells #[.int .i64 e2, .bool false, .string ⟨#[]⟩, .bool false, .string ⟨#[]⟩] 106)) (And.intro (X3.alloc (.cells #[.int .i64 e2, .bool false, .string ⟨#[]⟩, .bool false, .string ⟨#[]⟩] 106)) (And.intro X4 (And.intro (nxtA hB (.cells #[.int .i64 e2, .bool false, .string ⟨#[]⟩, .bool false, .string ⟨#[]⟩] 106)) (And.intro l1 (And.intro l2 l3)))))))
    clear X1 X2 X3 X4 hB
    go_upto_region 8 with (fail)
    obtain ⟨X1, X2, X3, X4, hB, l1, l2, l3⟩ := HK.out
    clear HK p1 p2 p5 p3 p4 p6 q1 q2 q5 q3 q4 q6
    generalize w2.alloc (.cells #[.int .i64 e2, .bool false, .string ⟨#[]⟩, .bool false, .string ⟨#[]⟩] 106) = w3 at *
    generalize w2.heap.size = g6 at *
    refine wp_region_k [30, 31, 32, 33, 34, 35, 36, 37, 38] [.eq (.pointer (some ⟨g6, 0, none⟩)), .eq (.int .i64 e2), .eq (.agg #[.bool false, .string ⟨#[]⟩, .int .i64 0]), .eq (.agg #[.bool (neg X), .string (mag X)]), .eq (.pointer (some ⟨g6, 0, none⟩)), .eq (.int .i64 e2), .eq (.agg #[.bool b2, .string s2, .int .i64 e2]), .eq (.agg #[.bool (neg Y), .string (mag Y)]), .eq (.pointer (some ⟨g6, 1, none⟩))] 41 (by kernel_rfl) (by exact fun _ _ _ _ _ h => h) (by kernel_rfl) (by rfl) ?hop ?htail
    case hop =>
      intro A hA
      have hN : A.tmps.size = 41 := by rw [hA]; rfl
      have q2 : A.tmps.getD 2 undef = .pointer (some ⟨w.heap.size, 0, none⟩) := by rw [hA]; rfl
      have q3 : A.tmps.getD 3 undef = .pointer (some ⟨w.heap.size + 1, 0, none⟩) := by rw [hA]; rfl
      have q6 : A.tmps.getD 6 undef = .pointer (some ⟨g6, 0, none⟩) := by rw [hA]; rfl
      clear hA
      refine ⟨?_, ?_, ?_, ?_, ?_, ?_, ?_, ?_, ?_, trivial⟩
      · refine kok hN fun u W ev ec ef E B hG hf => ?_
        exact k_val _ rfl rfl hG (by simp [go_sem, B 6 rfl rfl q6]) rfl
      · refine kok hN fun u W ev ec ef E B hG hf => ?_
        exact k_val _ rfl rfl hG (by simp [go_sem, E 30 0 rfl rfl (hf 0 rfl), (X4.later hG).cel]) rfl
      · refine kok hN fun u W ev ec ef E B hG hf => ?_
        exact k_val _ rfl rfl hG (by simp [go_sem, B 2 rfl rfl q2, (X1.later hG).cel]) rfl
      · refine kok hN fun u W ev ec ef E B hG hf => ?_
        exact k_cl rfl rfl (by simp [go_sem, ef, E 31 1 rfl rfl (hf 1 rfl), E 32 2 rfl rfl (hf 2 rfl)]) (cU.out W (tab_keep HT.out (nxt hB hG))) hG (fun _ _ => rfl)
      · refine kok hN fun u W ev ec ef E B hG hf => ?_
        exact k_val _ rfl rfl hG (by simp [go_sem, B 6 rfl rfl q6]) rfl
      · refine kok hN fun u W ev ec ef E B hG hf => ?_
        exact k_val _ rfl rfl hG (by simp [go_sem, E 34 4 rfl rfl (hf 4 rfl), (X4.later hG).cel]) rfl
      · refine kok hN fun u W ev ec ef E B hG hf => ?_
        exact k_val _ rfl rfl hG (by simp [go_sem, B 3 rfl rfl q3, (X2.later hG).cel]) rfl
      · refine kok hN fun u W ev ec ef E B hG hf => ?_
        exact k_cl rfl rfl (by simp [go_sem, ef, E 35 5 rfl rfl (hf 5 rfl), E 36 6 rfl rfl (hf 6 rfl)]) (cV.out W (tab_keep HT.out (nxt hB hG))) hG (fun _ _ => rfl)
      · refine kok hN fun u W ev ec ef E B hG hf => ?_
        exact k_val _ rfl rfl hG (by simp [go_sem, B 6 rfl rfl q6]) rfl
    case htail =>
      intro u w4 hG hP hD
      have f33 : u 3 = .agg #[.bool (neg X), .string (mag X)] := hP 3 (by decide)
      have f37 : u 7 = .agg #[.bool (neg Y), .string (mag Y)] := hP 7 (by decide)
      have f38 : u 8 = .pointer (some ⟨g6, 1, none⟩) := hP 8 (by decide)
      simp only [putAll, Act.put, List.setIfInBounds_toArray, List.set_cons_zero, List.set_cons_succ, List.length_cons, List.length_nil, Nat.reduceAdd, List.drop_succ_cons, List.drop_zero, f33, f37, f38]
      have hBn := nxt hB hG
      replace X3 := X3.later hG
      replace X4 := X4.later hG
      have hg6 : w.heap.size ≤ g6 := Nat.le_of_lt l1
      have hne : w.heap.size + 2 ≠ g6 := Nat.ne_of_lt l3
      have Y4 := X4.set5a (.bool (neg X)) (.string (mag X))
      have Z4 := Y4.set5b (.bool (neg Y)) (.string (mag Y))
      have Z3 := Bx.far2 (i := 3) (j := 4) (Bx.far2 (i := 1) (j := 2) X3 hne (.bool (neg X)) (.string (mag X))) hne (.bool (neg Y)) (.string (mag Y))
      have hB2 := Lib.hid (st2' (st2' hBn hg6 1 2 (.bool (neg X)) (.string (mag X))) hg6 3 4 (.bool (neg Y)) (.string (mag Y)))
      have HZ := Lib.hid Z3
      obtain ⟨r1, r2, r3, r4, r5, r6, r7, r8, r9, r10⟩ := X4.five
      obtain ⟨t1, t2, t3, t4, t5, t6, t7, t8, t9, t10⟩ := Y4.five
      obtain ⟨v1, v2, v3, v4, v5, v6, v7, v8, v9, v10⟩ := Z4.five
      obtain ⟨x1, x2, x3, x4, x5, x6, x7, x8, x9, x10⟩ := Z3.five
      clear hP hD hG hB hBn X1 X2 X3 X4 Y4 Z4 Z3 hg6 hne l1 l2 l3 f33 f37 f38
      go_wp2_with fail
      exact bodyPost_ret (v := .agg #[.int .i64 e2, .bool (neg X), .string (mag X), .bool (neg Y), .string (mag Y)]) (by simp [results, Tryz.results86, go_sem, (HZ.out.set5 _ _ _ _ _).cel]) rfl ⟨rfl, st5 hB2.out (Nat.le_add_right _ 2) _ _ _ _ _⟩

set_option maxRecDepth 100000 in
set_option maxHeartbeats 1000000 in
theorem dLevel_B (s t : ByteArray) (b c : Bool) (e f : Int) (b1 : Bool) (s1 : ByteArray) (e1 : Int) (hm1 : ¬ s1.toList = []) (X Y : Int) (w : World) (hT : TabAt 0 Lib.deBruijn64tab w)
    (cF : Hid (∀ W : World, TabAt 0 Lib.deBruijn64tab W → Calls Tryz.prog 45 #[.agg #[.bool b, .string s, .int .i64 e]] W fun r w' => r = .returned (.agg #[.bool b1, .string s1, .int .i64 e1]) ∧ Below W.heap.size W w'))
    (cG : Hid (∀ W : World, TabAt 0 Lib.deBruijn64tab W → Calls Tryz.prog 45 #[.agg #[.bool c, .string t, .int .i64 f]] W fun r w' => r = .returned (.agg #[.bool false, .string ⟨#[]⟩, .int .i64 0]) ∧ Below W.heap.size W w'))
    (cU : Hid (∀ W : World, TabAt 0 Lib.deBruijn64tab W → Calls Tryz.prog 106 #[.int .i64 e1, .agg #[.bool b1, .string s1, .int .i64 e1]] W fun r w' => r = .returned (.agg #[.bool (neg X), .string (mag X)]) ∧ Below W.heap.size W w'))
    (cV : Hid (∀ W : World, TabAt 0 Lib.deBruijn64tab W → Calls Tryz.prog 106 #[.int .i64 e1, .agg #[.bool false, .string ⟨#[]⟩, .int .i64 0]] W fun r w' => r = .returned (.agg #[.bool (neg Y), .string (mag Y)]) ∧ Below W.heap.size W w'))
    :
    Calls Tryz.prog 86 #[.agg #[.bool b, .string s, .int .i64 e], .agg #[.bool c, .string t, .int .i64 f]] w fun r w' => r = .returned (.agg #[.int .i64 e1, .bool (neg X), .string (mag X), .bool (neg Y), .string (mag Y)]) ∧ Below w.heap.size w w' := by
  have HT := Lib.hid hT
  clear hT
  go_enter Tryz.func86, Tryz.ntmps86
  go_upto_region 1 with (fail)
  have X1 := ((Bx.new w 29 #[.bool b, .string s, .int .i64 e]).alloc (.cells #[.bool c, .string t, .int .i64 f] 29)).alloc (.cells #[.int .i64 0, .bool false, .string ⟨#[]⟩, .bool false, .string ⟨#[]⟩] 106)
  have X2 := (Bx.at1 w (.cells #[.bool b, .string s, .int .i64 e] 29) 29 #[.bool c, .string t, .int .i64 f]).alloc (.cells #[.int .i64 0, .bool false, .string ⟨#[]⟩, .bool false, .string ⟨#[]⟩] 106)
  have X3 := Bx.at2 w (.cells #[.bool b, .string s, .int .i64 e] 29) (.cells #[.bool c, .string t, .int .i64 f] 29) 106 #[.int .i64 0, .bool false, .string ⟨#[]⟩, .bool false, .string ⟨#[]⟩]
  have hB := b3 w (.cells #[.bool b, .string s, .int .i64 e] 29) (.cells #[.bool c, .string t, .int .i64 f] 29) (.cells #[.int .i64 0, .bool false, .string ⟨#[]⟩, .bool false, .string ⟨#[]⟩] 106)
  generalize ((w.alloc (.cells #[.bool b, .string s, .int .i64 e] 29)).alloc (.cells #[.bool c, .string t, .int .i64 f] 29)).alloc (.cells #[.int .i64 0, .bool false, .string ⟨#[]⟩, .bool false, .string ⟨#[]⟩] 106) = w0 at *
  have hl0 := X1.lt
  have hl1 := X2.lt
  have hl2 := X3.lt
  refine wp_region_k [7, 8, 9, 10] [.eq (.agg #[.bool b, .string s, .int .i64 e]), .eq (.agg #[.bool b1, .string s1, .int .i64 e1]), .eq (.agg #[.bool c, .string t, .int .i64 f]), .eq (.agg #[.bool false, .string ⟨#[]⟩, .int .i64 0])] 41 (by kernel_rfl) (by exact fun _ _ _ _ _ h => h) (by kernel_rfl) (by rfl) ?hop ?htail
  case hop =>
    intro A hA
    have hN : A.tmps.size = 41 := by rw [hA]; rfl
    have q2 : A.tmps.getD 2 undef = .pointer (some ⟨w.heap.size, 0, none⟩) := by rw [hA]; rfl
    have q3 : A.tmps.getD 3 undef = .pointer (some ⟨w.heap.size + 1, 0, none⟩) := by rw [hA]; rfl
    clear hA
    refine ⟨?_, ?_, ?_, ?_, trivial⟩
    · refine kok hN fun u W ev ec ef E B hG hf => ?_
      exact k_val _ rfl rfl hG (by simp [go_sem, B 2 rfl rfl q2, (X1.later hG).cel]) rfl
    · refine kok hN fun u W ev ec ef E B hG hf => ?_
      exact k_cl rfl rfl (by simp [go_sem, ef, E 7 0 rfl rfl (hf 0 rfl)]) (cF.out W (tab_keep HT.out (nxt hB hG))) hG (fun _ _ => rfl)
    · refine kok hN fun u W ev ec ef E B hG hf => ?_
      exact k_val _ rfl rfl hG (by simp [go_sem, B 3 rfl rfl q3, (X2.later hG).cel]) rfl
    · refine kok hN fun u W ev ec ef E B hG hf => ?_
      exact k_cl rfl rfl (by simp [go_sem, ef, E 9 2 rfl rfl (hf 2 rfl)]) (cG.out W (tab_keep HT.out (nxt hB hG))) hG (fun _ _ => rfl)
  case htail =>
    intro u w' hG hP hD
    have f8 : u 1 = .agg #[.bool b1, .string s1, .int .i64 e1] := hP 1 (by decide)
    have f10 : u 3 = .agg #[.bool false, .string ⟨#[]⟩, .int .i64 0] := hP 3 (by decide)
    simp only [putAll, Act.put, List.setIfInBounds_toArray, List.set_cons_zero, List.set_cons_succ, List.length_cons, List.length_nil, Nat.reduceAdd, List.drop_succ_cons, List.drop_zero, f8, f10]
    have hBn := nxt hB hG
    replace X1 := X1.later hG
    replace X2 := X2.later hG
    replace X3 := X3.later hG
    have hne : w.heap.size + 1 ≠ w.heap.size := by omega
    have hne2 : w.heap.size + 2 ≠ w.heap.size := by omega
    have hne3 : w.heap.size + 2 ≠ w.heap.size + 1 := by omega
    have Y2 := Bx.far3 (i := 0) (j := 1) (k := 2) X2 hne (.bool b1) (.string s1) (.int .i64 e1)
    have Z1 := Bx.far3 (i := 0) (j := 1) (k := 2) (X1.set3 (.bool b1) (.string s1) (.int .i64 e1)) (Ne.symm hne) (.bool false) (.string ⟨#[]⟩) (.int .i64 0)
    have Z2 := Y2.set3 (.bool false) (.string ⟨#[]⟩) (.int .i64 0)
    have Z3 := Bx.far3 (i := 0) (j := 1) (k := 2) (Bx.far3 (i := 0) (j := 1) (k := 2) X3 hne2 (.bool b1) (.string s1) (.int .i64 e1)) hne3 (.bool false) (.string ⟨#[]⟩) (.int .i64 0)
    have hB2 := st3 (st3 hBn (Nat.le_refl _) (.bool b1) (.string s1) (.int .i64 e1)) (Nat.le_add_right _ 1) (.bool false) (.string ⟨#[]⟩) (.int .i64 0)
    obtain ⟨p1, p2, p5, p3, p4, p6⟩ := X1.three
    obtain ⟨q1, q2, q5, q3, q4, q6⟩ := Y2.three
    have HK := Lib.hid (And.intro Z1 (And.intro Z2 (And.intro Z3 hB2)))
    clear f8 f10 hP hD hG hB hBn X1 X2 X3 Y2 Z1 Z2 Z3 hB2 hne hne2 hne3
    go_upto_region 2 with (fail)
    obtain ⟨X1, X2, X3, hB⟩ := HK.out
    clear HK p1 p2 p5 p3 p4 p6 q1 q2 q5 q3 q4 q6
    generalize (((((w'.setCell ⟨w.heap.size, 0, none⟩ (.bool b1)).setCell ⟨w.heap.size, 1, none⟩ (.string s1)).setCell ⟨w.heap.size, 2, none⟩ (.int .i64 e1)).setCell ⟨w.heap.size + 1, 0, none⟩ (.bool false)).setCell ⟨w.heap.size + 1, 1, none⟩ (.string ⟨#[]⟩)).setCell ⟨w.heap.size + 1, 2, none⟩ (.int .i64 0) = w2 at *
    obtain ⟨p1, p2, p5, p3, p4, p6⟩ := X1.three
    obtain ⟨q1, q2, q5, q3, q4, q6⟩ := X2.three
    have l1 := X1.lt
    have l2 := X2.lt
    have l3 := X3.lt
    have X4 := Bx.new w2 106 #[.int .i64 e1, .bool false, .string ⟨#[]⟩, .bool false, .string ⟨#[]⟩]
    have HK := Lib.hid (And.intro (X1.alloc (.cells #[.int .i64 e1, .bool false, .string ⟨#[]⟩, .bool false, .string ⟨#[]⟩] 106)) (And.intro (X2.alloc (.cells #[.int .i64 e1, .bool false, .string ⟨#[]⟩, .bool false, .string ⟨#[]⟩] 106)) (And.intro (X3.alloc (.cells #[.int .i64 e1, .bool false, .string ⟨#[]⟩, .bool false, .string ⟨#[]⟩] 106)) (And.intro X4 (And.intro (nxtA hB (.cells #[.int .i64 e1, .bool false, .string ⟨#[]⟩, .bool false, .string ⟨#[]⟩] 106)) (And.intro l1 (And.intro l2 l3)))))))
    clear X1 X2 X3 X4 hB
    go_upto_region 8 with (fail)
    obtain ⟨X1, X2, X3, X4, hB, l1, l2, l3⟩ := HK.out
    clear HK p1 p2 p5 p3 p4 p6 q1 q2 q5 q3 q4 q6
    generalize w2.alloc (.cells #[.int .i64 e1, .bool false, .string ⟨#[]⟩, .bool false, .string ⟨#[]⟩] 106) = w3 at *
    generalize w2.heap.size = g6 at *
    refine wp_region_k [30, 31, 32, 33, 34, 35, 36, 37, 38] [.eq (.pointer (some ⟨g6, 0, none⟩)), .eq (.int .i64 e1), .eq (.agg #[.bool b1, .string s1, .int .i64 e1]), .eq (.agg #[.bool (neg X), .string (mag X)]), .eq (.pointer (some ⟨g6, 0, none⟩)), .eq (.int .i64 e1), .eq (.agg #[.bool false, .string ⟨#[]⟩, .int .i64 0]), .eq (.agg #[.bool (neg Y), .string (mag Y)]), .eq (.pointer (some ⟨g6, 1, none⟩))] 41 (by kernel_rfl) (by exact fun _ _ _ _ _ h => h) (by kernel_rfl) (by rfl) ?hop ?htail
    case hop =>
      intro A hA
      have hN : A.tmps.size = 41 := by rw [hA]; rfl
      have q2 : A.tmps.getD 2 undef = .pointer (some ⟨w.heap.size, 0, none⟩) := by rw [hA]; rfl
      have q3 : A.tmps.getD 3 undef = .pointer (some ⟨w.heap.size + 1, 0, none⟩) := by rw [hA]; rfl
      have q6 : A.tmps.getD 6 undef = .pointer (some ⟨g6, 0, none⟩) := by rw [hA]; rfl
      clear hA
      refine ⟨?_, ?_, ?_, ?_, ?_, ?_, ?_, ?_, ?_, trivial⟩
      · refine kok hN fun u W ev ec ef E B hG hf => ?_
        exact k_val _ rfl rfl hG (by simp [go_sem, B 6 rfl rfl q6]) rfl
      · refine kok hN fun u W ev ec ef E B hG hf => ?_
        exact k_val _ rfl rfl hG (by simp [go_sem, E 30 0 rfl rfl (hf 0 rfl), (X4.later hG).cel]) rfl
      · refine kok hN fun u W ev ec ef E B hG hf => ?_
        exact k_val _ rfl rfl hG (by simp [go_sem, B 2 rfl rfl q2, (X1.later hG).cel]) rfl
      · refine kok hN fun u W ev ec ef E B hG hf => ?_
        exact k_cl rfl rfl (by simp [go_sem, ef, E 31 1 rfl rfl (hf 1 rfl), E 32 2 rfl rfl (hf 2 rfl)]) (cU.out W (tab_keep HT.out (nxt hB hG))) hG (fun _ _ => rfl)
      · refine kok hN fun u W ev ec ef E B hG hf => ?_
        exact k_val _ rfl rfl hG (by simp [go_sem, B 6 rfl rfl q6]) rfl
      · refine kok hN fun u W ev ec ef E B hG hf => ?_
        exact k_val _ rfl rfl hG (by simp [go_sem, E 34 4 rfl rfl (hf 4 rfl), (X4.later hG).cel]) rfl
      · refine kok hN fun u W ev ec ef E B hG hf => ?_
        exact k_val _ rfl rfl hG (by simp [go_sem, B 3 rfl rfl q3, (X2.later hG).cel]) rfl
      · refine kok hN fun u W ev ec ef E B hG hf => ?_
        exact k_cl rfl rfl (by simp [go_sem, ef, E 35 5 rfl rfl (hf 5 rfl), E 36 6 rfl rfl (hf 6 rfl)]) (cV.out W (tab_keep HT.out (nxt hB hG))) hG (fun _ _ => rfl)
      · refine kok hN fun u W ev ec ef E B hG hf => ?_
        exact k_val _ rfl rfl hG (by simp [go_sem, B 6 rfl rfl q6]) rfl
    case htail =>
      intro u w4 hG hP hD
      have f33 : u 3 = .agg #[.bool (neg X), .string (mag X)] := hP 3 (by decide)
      have f37 : u 7 = .agg #[.bool (neg Y), .string (mag Y)] := hP 7 (by decide)
      have f38 : u 8 = .pointer (some ⟨g6, 1, none⟩) := hP 8 (by decide)
      simp only [putAll, Act.put, List.setIfInBounds_toArray, List.set_cons_zero, List.set_cons_succ, List.length_cons, List.length_nil, Nat.reduceAdd, List.drop_succ_cons, List.drop_zero, f33, f37, f38]
      have hBn := nxt hB hG
      replace X3 := X3.later hG
      replace X4 := X4.later hG
      have hg6 : w.heap.size ≤ g6 := Nat.le_of_lt l1
      have hne : w.heap.size + 2 ≠ g6 := Nat.ne_of_lt l3
      have Y4 := X4.set5a (.bool (neg X)) (.string (mag X))
      have Z4 := Y4.set5b (.bool (neg Y)) (.string (mag Y))
      have Z3 := Bx.far2 (i := 3) (j := 4) (Bx.far2 (i := 1) (j := 2) X3 hne (.bool (neg X)) (.string (mag X))) hne (.bool (neg Y)) (.string (mag Y))
      have hB2 := Lib.hid (st2' (st2' hBn hg6 1 2 (.bool (neg X)) (.string (mag X))) hg6 3 4 (.bool (neg Y)) (.string (mag Y)))
      have HZ := Lib.hid Z3
      obtain ⟨r1, r2, r3, r4, r5, r6, r7, r8, r9, r10⟩ := X4.five
      obtain ⟨t1, t2, t3, t4, t5, t6, t7, t8, t9, t10⟩ := Y4.five
      obtain ⟨v1, v2, v3, v4, v5, v6, v7, v8, v9, v10⟩ := Z4.five
      obtain ⟨x1, x2, x3, x4, x5, x6, x7, x8, x9, x10⟩ := Z3.five
      clear hP hD hG hB hBn X1 X2 X3 X4 Y4 Z4 Z3 hg6 hne l1 l2 l3 f33 f37 f38
      go_wp2_with fail
      exact bodyPost_ret (v := .agg #[.int .i64 e1, .bool (neg X), .string (mag X), .bool (neg Y), .string (mag Y)]) (by simp [results, Tryz.results86, go_sem, (HZ.out.set5 _ _ _ _ _).cel]) rfl ⟨rfl, st5 hB2.out (Nat.le_add_right _ 2) _ _ _ _ _⟩

set_option maxRecDepth 100000 in
set_option maxHeartbeats 1000000 in
theorem dLevel_C (s t : ByteArray) (b c : Bool) (e f : Int) (b1 : Bool) (s1 : ByteArray) (e1 : Int) (hm1 : ¬ s1.toList = []) (b2 : Bool) (s2 : ByteArray) (e2 k : Int) (hm2 : ¬ s2.toList = []) (hk : min e1 e2 = k) (X Y : Int) (w : World) (hT : TabAt 0 Lib.deBruijn64tab w)
    (cF : Hid (∀ W : World, TabAt 0 Lib.deBruijn64tab W → Calls Tryz.prog 45 #[.agg #[.bool b, .string s, .int .i64 e]] W fun r w' => r = .returned (.agg #[.bool b1, .string s1, .int .i64 e1]) ∧ Below W.heap.size W w'))
    (cG : Hid (∀ W : World, TabAt 0 Lib.deBruijn64tab W → Calls Tryz.prog 45 #[.agg #[.bool c, .string t, .int .i64 f]] W fun r w' => r = .returned (.agg #[.bool b2, .string s2, .int .i64 e2]) ∧ Below W.heap.size W w'))
    (cU : Hid (∀ W : World, TabAt 0 Lib.deBruijn64tab W → Calls Tryz.prog 106 #[.int .i64 k, .agg #[.bool b1, .string s1, .int .i64 e1]] W fun r w' => r = .returned (.agg #[.bool (neg X), .string (mag X)]) ∧ Below W.heap.size W w'))
    (cV : Hid (∀ W : World, TabAt 0 Lib.deBruijn64tab W → Calls Tryz.prog 106 #[.int .i64 k, .agg #[.bool b2, .string s2, .int .i64 e2]] W fun r w' => r = .returned (.agg #[.bool (neg Y), .string (mag Y)]) ∧ Below W.heap.size W w'))
    :
    Calls Tryz.prog 86 #[.agg #[.bool b, .string s, .int .i64 e], .agg #[.bool c, .string t, .int .i64 f]] w fun r w' => r = .returned (.agg #[.int .i64 k, .bool (neg X), .string (mag X), .bool (neg Y), .string (mag Y)]) ∧ Below w.heap.size w w' := by
  have HT := Lib.hid hT
  clear hT
  go_enter Tryz.func86, Tryz.ntmps86
  go_upto_region 1 with (fail)
  have X1 := ((Bx.new w 29 #[.bool b, .string s, .int .i64 e]).alloc (.cells #[.bool c, .string t, .int .i64 f] 29)).alloc (.cells #[.int .i64 0, .bool false, .string ⟨#[]⟩, .bool false, .string ⟨#[]⟩] 106)
  have X2 := (Bx.at1 w (.cells #[.bool b, .string s, .int .i64 e] 29) 29 #[.bool c, .string t, .int .i64 f]).alloc (.cells #[.int .i64 0, .bool false, .string ⟨#[]⟩, .bool false, .string ⟨#[]⟩] 106)
  have X3 := Bx.at2 w (.cells #[.bool b, .string s, .int .i64 e] 29) (.cells #[.bool c, .string t, .int .i64 f] 29) 106 #[.int .i64 0, .bool false, .string ⟨#[]⟩, .bool false, .string ⟨#[]⟩]
  have hB := b3 w (.cells #[.bool b, .string s, .int .i64 e] 29) (.cells #[.bool c, .string t, .int .i64 f] 29) (.cells #[.int .i64 0, .bool false, .string ⟨#[]⟩, .bool false, .string ⟨#[]⟩] 106)
  generalize ((w.alloc (.cells #[.bool b, .string s, .int .i64 e] 29)).alloc (.cells #[.bool c, .string t, .int .i64 f] 29)).alloc (.cells #[.int .i64 0, .bool false, .string ⟨#[]⟩, .bool false, .string ⟨#[]⟩] 106) = w0 at *
  have hl0 := X1.lt
  have hl1 := X2.lt
  have hl2 := X3.lt
  refine wp_region_k [7, 8, 9, 10] [.eq (.agg #[.bool b, .string s, .int .i64 e]), .eq (.agg #[.bool b1, .string s1, .int .i64 e1]), .eq (.agg #[.bool c, .string t, .int .i64 f]), .eq (.agg #[.bool b2, .string s2, .int .i64 e2])] 41 (by kernel_rfl) (by exact fun _ _ _ _ _ h => h) (by kernel_rfl) (by rfl) ?hop ?htail
  case hop =>
    intro A hA
    have hN : A.tmps.size = 41 := by rw [hA]; rfl
    have q2 : A.tmps.getD 2 undef = .pointer (some ⟨w.heap.size, 0, none⟩) := by rw [hA]; rfl
    have q3 : A.tmps.getD 3 undef = .pointer (some ⟨w.heap.size + 1, 0, none⟩) := by rw [hA]; rfl
    clear hA
    refine ⟨?_, ?_, ?_, ?_, trivial⟩
    · refine kok hN fun u W ev ec ef E B hG hf => ?_
      exact k_val _ rfl rfl hG (by simp [go_sem, B 2 rfl rfl q2, (X1.later hG).cel]) rfl
    · refine kok hN fun u W ev ec ef E B hG hf => ?_
      exact k_cl rfl rfl (by simp [go_sem, ef, E 7 0 rfl rfl (hf 0 rfl)]) (cF.out W (tab_keep HT.out (nxt hB hG))) hG (fun _ _ => rfl)
    · refine kok hN fun u W ev ec ef E B hG hf => ?_
      exact k_val _ rfl rfl hG (by simp [go_sem, B 3 rfl rfl q3, (X2.later hG).cel]) rfl
    · refine kok hN fun u W ev ec ef E B hG hf => ?_
      exact k_cl rfl rfl (by simp [go_sem, ef, E 9 2 rfl rfl (hf 2 rfl)]) (cG.out W (tab_keep HT.out (nxt hB hG))) hG (fun _ _ => rfl)
  case htail =>
    intro u w' hG hP hD
    have f8 : u 1 = .agg #[.bool b1, .string s1, .int .i64 e1] := hP 1 (by decide)
    have f10 : u 3 = .agg #[.bool b2, .string s2, .int .i64 e2] := hP 3 (by decide)
    simp only [putAll, Act.put, List.setIfInBounds_toArray, List.set_cons_zero, List.set_cons_succ, List.length_cons, List.length_nil, Nat.reduceAdd, List.drop_succ_cons, List.drop_zero, f8, f10]
    have hBn := nxt hB hG
    replace X1 := X1.later hG
    replace X2 := X2.later hG
    replace X3 := X3.later hG
    have hne : w.heap.size + 1 ≠ w.heap.size := by omega
    have hne2 : w.heap.size + 2 ≠ w.heap.size := by omega
    have hne3 : w.heap.size + 2 ≠ w.heap.size + 1 := by omega
    have Y2 := Bx.far3 (i := 0) (j := 1) (k := 2) X2 hne (.bool b1) (.string s1) (.int .i64 e1)
    have Z1 := Bx.far3 (i := 0) (j := 1) (k := 2) (X1.set3 (.bool b1) (.string s1) (.int .i64 e1)) (Ne.symm hne) (.bool b2) (.string s2) (.int .i64 e2)
    have Z2 := Y2.set3 (.bool b2) (.string s2) (.int .i64 e2)
    have Z3 := Bx.far3 (i := 0) (j := 1) (k := 2) (Bx.far3 (i := 0) (j := 1) (k := 2) X3 hne2 (.bool b1) (.string s1) (.int .i64 e1)) hne3 (.bool b2) (.string s2) (.int .i64 e2)
    have hB2 := st3 (st3 hBn (Nat.le_refl _) (.bool b1) (.string s1) (.int .i64 e1)) (Nat.le_add_right _ 1) (.bool b2) (.string s2) (.int .i64 e2)
    obtain ⟨p1, p2, p5, p3, p4, p6⟩ := X1.three
    obtain ⟨q1, q2, q5, q3, q4, q6⟩ := Y2.three
    have HK := Lib.hid (And.intro Z1 (And.intro Z2 (And.intro Z3 hB2)))
    clear f8 f10 hP hD hG hB hBn X1 X2 X3 Y2 Z1 Z2 Z3 hB2 hne hne2 hne3
    go_upto_region 2 with (fail)
    obtain ⟨X1, X2, X3, hB⟩ := HK.out
    clear HK p1 p2 p5 p3 p4 p6 q1 q2 q5 q3 q4 q6
    generalize (((((w'.setCell ⟨w.heap.size, 0, none⟩ (.bool b1)).setCell ⟨w.heap.size, 1, none⟩ (.string s1)).setCell ⟨w.heap.size, 2, none⟩ (.int .i64 e1)).setCell ⟨w.heap.size + 1, 0, none⟩ (.bool b2)).setCell ⟨w.heap.size + 1, 1, none⟩ (.string s2)).setCell ⟨w.heap.size + 1, 2, none⟩ (.int .i64 e2) = w2 at *
    obtain ⟨p1, p2, p5, p3, p4, p6⟩ := X1.three
    obtain ⟨q1, q2, q5, q3, q4, q6⟩ := X2.three
    have l1 := X1.lt
    have l2 := X2.lt
    have l3 := X3.lt
    have X4 := Bx.new w2 106 #[.int .i64 k, .bool false, .string ⟨#[]⟩, .bool false, .string ⟨#[]⟩]
    have HK := Lib.hid (And.intro (X1.alloc (.cells #[.int .i64 k, .bool false, .string ⟨#[]⟩, .bool false, .string ⟨#[]⟩] 106)) (And.intro (X2.alloc (.cells #[.int .i64 k, .bool false, .string ⟨#[]⟩, .bool false, .string ⟨#[]⟩] 106)) (And.intro (X3.alloc (.cells #[.int .i64 k, .bool false, .string ⟨#[]⟩, .bool false, .string ⟨#[]⟩] 106)) (And.intro X4 (And.intro (nxtA hB (.cells #[.int .i64 k, .bool false, .string ⟨#[]⟩, .bool false, .string ⟨#[]⟩] 106)) (And.intro l1 (And.intro l2 l3)))))))
    clear X1 X2 X3 X4 hB
    go_upto_region 8 with (fail)
    obtain ⟨X1, X2, X3, X4, hB, l1, l2, l3⟩ := HK.out
    clear HK p1 p2 p5 p3 p4 p6 q1 q2 q5 q3 q4 q6
    generalize w2.alloc (.cells #[.int .i64 k, .bool false, .string ⟨#[]⟩, .bool false, .string ⟨#[]⟩] 106) = w3 at *
    generalize w2.heap.size = g6 at *
    refine wp_region_k [30, 31, 32, 33, 34, 35, 36, 37, 38] [.eq (.pointer (some ⟨g6, 0, none⟩)), .eq (.int .i64 k), .eq (.agg #[.bool b1, .string s1, .int .i64 e1]), .eq (.agg #[.bool (neg X), .string (mag X)]), .eq (.pointer (some ⟨g6, 0, none⟩)), .eq (.int .i64 k), .eq (.agg #[.bool b2, .string s2, .int .i64 e2]), .eq (.agg #[.bool (neg Y), .string (mag Y)]), .eq (.pointer (some ⟨g6, 1, none⟩))] 41 (by kernel_rfl) (by exact fun _ _ _ _ _ h => h) (by kernel_rfl) (by rfl) ?hop ?htail
    case hop =>
      intro A hA
      have hN : A.tmps.size = 41 := by rw [hA]; rfl
      have q2 : A.tmps.getD 2 undef = .pointer (some ⟨w.heap.size, 0, none⟩) := by rw [hA]; rfl
      have q3 : A.tmps.getD 3 undef = .pointer (some ⟨w.heap.size + 1, 0, none⟩) := by rw [hA]; rfl
      have q6 : A.tmps.getD 6 undef = .pointer (some ⟨g6, 0, none⟩) := by rw [hA]; rfl
      clear hA
      refine ⟨?_, ?_, ?_, ?_, ?_, ?_, ?_, ?_, ?_, trivial⟩
      · refine kok hN fun u W ev ec ef E B hG hf => ?_
        exact k_val _ rfl rfl hG (by simp [go_sem, B 6 rfl rfl q6]) rfl
      · refine kok hN fun u W ev ec ef E B hG hf => ?_
        exact k_val _ rfl rfl hG (by simp [go_sem, E 30 0 rfl rfl (hf 0 rfl), (X4.later hG).cel]) rfl
      · refine kok hN fun u W ev ec ef E B hG hf => ?_
        exact k_val _ rfl rfl hG (by simp [go_sem, B 2 rfl rfl q2, (X1.later hG).cel]) rfl
      · refine kok hN fun u W ev ec ef E B hG hf => ?_
        exact k_cl rfl rfl (by simp [go_sem, ef, E 31 1 rfl rfl (hf 1 rfl), E 32 2 rfl rfl (hf 2 rfl)]) (cU.out W (tab_keep HT.out (nxt hB hG))) hG (fun _ _ => rfl)
      · refine kok hN fun u W ev ec ef E B hG hf => ?_
        exact k_val _ rfl rfl hG (by simp [go_sem, B 6 rfl rfl q6]) rfl
      · refine kok hN fun u W ev ec ef E B hG hf => ?_
        exact k_val _ rfl rfl hG (by simp [go_sem, E 34 4 rfl rfl (hf 4 rfl), (X4.later hG).cel]) rfl
      · refine kok hN fun u W ev ec ef E B hG hf => ?_
        exact k_val _ rfl rfl hG (by simp [go_sem, B 3 rfl rfl q3, (X2.later hG).cel]) rfl
      · refine kok hN fun u W ev ec ef E B hG hf => ?_
        exact k_cl rfl rfl (by simp [go_sem, ef, E 35 5 rfl rfl (hf 5 rfl), E 36 6 rfl rfl (hf 6 rfl)]) (cV.out W (tab_keep HT.out (nxt hB hG))) hG (fun _ _ => rfl)
      · refine kok hN fun u W ev ec ef E B hG hf => ?_
        exact k_val _ rfl rfl hG (by simp [go_sem, B 6 rfl rfl q6]) rfl
    case htail =>
      intro u w4 hG hP hD
      have f33 : u 3 = .agg #[.bool (neg X), .string (mag X)] := hP 3 (by decide)
      have f37 : u 7 = .agg #[.bool (neg Y), .string (mag Y)] := hP 7 (by decide)
      have f38 : u 8 = .pointer (some ⟨g6, 1, none⟩) := hP 8 (by decide)
      simp only [putAll, Act.put, List.setIfInBounds_toArray, List.set_cons_zero, List.set_cons_succ, List.length_cons, List.length_nil, Nat.reduceAdd, List.drop_succ_cons, List.drop_zero, f33, f37, f38]
      have hBn := nxt hB hG
      replace X3 := X3.later hG
      replace X4 := X4.later hG
      have hg6 : w.heap.size ≤ g6 := Nat.le_of_lt l1
      have hne : w.heap.size + 2 ≠ g6 := Nat.ne_of_lt l3
      have Y4 := X4.set5a (.bool (neg X)) (.string (mag X))
      have Z4 := Y4.set5b (.bool (neg Y)) (.string (mag Y))
      have Z3 := Bx.far2 (i := 3) (j := 4) (Bx.far2 (i := 1) (j := 2) X3 hne (.bool (neg X)) (.string (mag X))) hne (.bool (neg Y)) (.string (mag Y))
      have hB2 := Lib.hid (st2' (st2' hBn hg6 1 2 (.bool (neg X)) (.string (mag X))) hg6 3 4 (.bool (neg Y)) (.string (mag Y)))
      have HZ := Lib.hid Z3
      obtain ⟨r1, r2, r3, r4, r5, r6, r7, r8, r9, r10⟩ := X4.five
      obtain ⟨t1, t2, t3, t4, t5, t6, t7, t8, t9, t10⟩ := Y4.five
      obtain ⟨v1, v2, v3, v4, v5, v6, v7, v8, v9, v10⟩ := Z4.five
      obtain ⟨x1, x2, x3, x4, x5, x6, x7, x8, x9, x10⟩ := Z3.five
      clear hP hD hG hB hBn X1 X2 X3 X4 Y4 Z4 Z3 hg6 hne l1 l2 l3 f33 f37 f38
      go_wp2_with fail
      exact bodyPost_ret (v := .agg #[.int .i64 k, .bool (neg X), .string (mag X), .bool (neg Y), .string (mag Y)]) (by simp [results, Tryz.results86, go_sem, (HZ.out.set5 _ _ _ _ _).cel]) rfl ⟨rfl, st5 hB2.out (Nat.le_add_right _ 2) _ _ _ _ _⟩

end Go.Proofs.YtibbhpgpleeglaaGreatDoor

namespace Go.Proofs.YtibbhpgpleeglaaGreatDoor
open Go.RowKit

/-- These cells are this number; not too long, not too far. -/
structure ND (b : Bool) (s : ByteArray) (e : Int) (x : Dyadic) : Prop where
  val : dy (ival b (sval s)) e = x
  size : s.size ≤ 1048576
  lo : -1073741824 ≤ e
  hi : e ≤ 1073741824
theorem nd_db {L T : Nat} {x : Dyadic} (h : DB L T x) (hLT : L + T ≤ 4000000) : ND (neg (dm x)) (mag (dm x)) (de x) x := by
  obtain ⟨h1, h2, _⟩ := db_form h
  have h4 := db_size h
  exact ⟨by rw [ival_mk, dy_dm], by omega, by omega, by omega⟩
theorem nd_form {b : Bool} {s : ByteArray} {e : Int} {x : Dyadic} (h : ND b s e x) : (mag (dm x)).size ≤ 1048576 ∧ -1073741824 ≤ de x ∧ de x ≤ 1090519040 := by
  by_cases hz : ival b (sval s) = 0
  · have e1 := h.val
    rw [hz, dy_zero] at e1
    subst e1
    exact ⟨by show (mag 0).size ≤ _; rw [mag_zero]; exact Nat.zero_le _, by decide, by decide⟩
  · obtain ⟨h1, h2⟩ := dm_dy e hz
    rw [h.val, ival_natAbs] at h1 h2
    have h3 := tz_size (s := s) (fun h0 => hz (by rw [h0, ival_zero]))
    have h4 := h.size
    have h5 := h.lo
    have h6 := h.hi
    refine ⟨?_, by omega, by omega⟩
    rw [h1, mag_size]
    refine Nat.le_trans (bsz_natAbs_le (Int.natAbs_ediv_le_natAbs _ _)) (Nat.le_trans (bsz_ival b s) h4)
theorem mag_some {x : Dyadic} (h : x ≠ 0) : ¬ (mag (dm x)).toList = [] := fun h1 => h (dm_zero.1 (mag_empty.1 h1))
theorem dy_level (x : Dyadic) {k : Int} (h : k ≤ de x) : dy (shiftI (dm x) (de x - k)) k = x := by
  unfold shiftI
  rw [if_pos (by omega), dy_shl]
  have e : k + ((de x - k).toNat : Int) = de x := by omega
  rw [e, dy_dm]
theorem level_bsz {x : Dyadic} {k : Int} (h : k ≤ de x) (hs : (mag (dm x)).size ≤ 1048576) (hk : de x - k ≤ 2164260864) : bsz (shiftI (dm x) (de x - k)) ≤ 300000000 := by
  unfold shiftI
  rw [if_pos (by omega)]
  rw [mag_size] at hs
  exact Nat.le_trans (bsz_shl_le hs) (by omega)
theorem bsz_zero : bsz 0 = 0 := rfl

theorem on_ex {b : Bool} {s : ByteArray} {x : Dyadic} {e k : Int} (hv : ival b (sval s) = dm x) (he : e = de x) (hs : s.size ≤ 1048576) (h1 : -9223372036854775808 ≤ e - k) (h2 : e - k ≤ 68719476736) :
    Hid (∀ W : World, TabAt 0 Lib.deBruijn64tab W → Calls Tryz.prog 106 #[.int .i64 k, .agg #[.bool b, .string s, .int .i64 e]] W fun r w' => r = .returned (.agg #[.bool (neg (shiftI (dm x) (de x - k))), .string (mag (shiftI (dm x) (de x - k)))]) ∧ Below W.heap.size W w') := by
  have h := Lib.hid (fun W (hT : TabAt 0 Lib.deBruijn64tab W) => dOn_any s b e k W (by omega) h1 h2 hT)
  rw [hv, he] at h
  rw [he]
  exact h
theorem dLevel_ex {b c : Bool} {s t : ByteArray} {e f : Int} {x y : Dyadic} (n1 : ND b s e x) (n2 : ND c t f y) :
    ∃ k X Y : Int, dy X k = x ∧ dy Y k = y ∧ bsz X ≤ 300000000 ∧ bsz Y ≤ 300000000 ∧ -2147483648 ≤ k ∧ k ≤ 2147483648 ∧
      Hid (∀ W : World, TabAt 0 Lib.deBruijn64tab W → Calls Tryz.prog 86 #[.agg #[.bool b, .string s, .int .i64 e], .agg #[.bool c, .string t, .int .i64 f]] W fun r w' => r = .returned (.agg #[.int .i64 k, .bool (neg X), .string (mag X), .bool (neg Y), .string (mag Y)]) ∧ Below W.heap.size W w') := by
  obtain ⟨a1, a2, a3⟩ := nd_form n1
  obtain ⟨c1, c2, c3⟩ := nd_form n2
  have cF := Lib.hid (fun W (hT : TabAt 0 Lib.deBruijn64tab W) => dForm_any s b e W (Nat.le_trans n1.size (by decide)) (by have := n1.lo; omega) (by have := n1.hi; omega) hT)
  have cG := Lib.hid (fun W (hT : TabAt 0 Lib.deBruijn64tab W) => dForm_any t c f W (Nat.le_trans n2.size (by decide)) (by have := n2.lo; omega) (by have := n2.hi; omega) hT)
  rw [n1.val] at cF
  rw [n2.val] at cG
  by_cases hx : x = 0
  · subst hx
    have z1 : shiftI (dm 0) (de 0 - de y) = 0 := by
      show shiftI 0 _ = 0
      unfold shiftI; split <;> simp
    refine ⟨de y, 0, shiftI (dm y) (de y - de y), dy_zero _, dy_level y (Int.le_refl _), by rw [bsz_zero]; decide, level_bsz (Int.le_refl _) c1 (by omega), by omega, by omega, Lib.hid fun W hT => ?_⟩
    have cU := on_ex (b := false) (s := ⟨#[]⟩) (x := 0) (e := 0) (k := de y) rfl rfl (by decide) (by omega) (by omega)
    rw [z1] at cU
    exact dLevel_A s t b c e f _ _ _ _ _ W hT cF cG cU (on_ex (ival_mk _) rfl c1 (by omega) (by omega))
  · by_cases hy : y = 0
    · subst hy
      have z1 : shiftI (dm 0) (de 0 - de x) = 0 := by
        show shiftI 0 _ = 0
        unfold shiftI; split <;> simp
      refine ⟨de x, shiftI (dm x) (de x - de x), 0, dy_level x (Int.le_refl _), dy_zero _, level_bsz (Int.le_refl _) a1 (by omega), by rw [bsz_zero]; decide, by omega, by omega, Lib.hid fun W hT => ?_⟩
      have cV := on_ex (b := false) (s := ⟨#[]⟩) (x := 0) (e := 0) (k := de x) rfl rfl (by decide) (by omega) (by omega)
      rw [z1] at cV
      exact dLevel_B s t b c e f _ _ _ (mag_some hx) _ _ W hT cF cG (on_ex (ival_mk _) rfl a1 (by omega) (by omega)) cV
    · obtain ⟨k, hk⟩ : ∃ k, min (de x) (de y) = k := ⟨_, rfl⟩
      refine ⟨k, shiftI (dm x) (de x - k), shiftI (dm y) (de y - k), dy_level x (by omega), dy_level y (by omega), level_bsz (by omega) a1 (by omega), level_bsz (by omega) c1 (by omega), by omega, by omega, Lib.hid fun W hT => ?_⟩
      exact dLevel_C s t b c e f _ _ _ (mag_some hx) _ _ _ k (mag_some hy) hk _ _ W hT cF cG (on_ex (ival_mk _) rfl a1 (by omega) (by omega)) (on_ex (ival_mk _) rfl c1 (by omega) (by omega))

end Go.Proofs.YtibbhpgpleeglaaGreatDoor

namespace Go.Proofs.YtibbhpgpleeglaaGreatDoor
open Go.RowKit

/-- A []api.Num's first n elements. -/
def RdN (w : World) (A : Option Addr) (n : Nat) (bs : Nat → Bool) (ss : Nat → ByteArray) (es : Nat → Int) : Prop :=
  0 < n → ∃ b off, A = some ⟨b, off, none⟩ ∧ ∀ j, j < n → w.cell? ⟨b, off + j * 3, none⟩ = some (.bool (bs j)) ∧ w.cell? ⟨b, off + j * 3 + 1, none⟩ = some (.string (ss j)) ∧ w.cell? ⟨b, off + j * 3 + 2, none⟩ = some (.int .i64 (es j))
theorem RdN.below {w w' : World} {A : Option Addr} {n : Nat} {bs : Nat → Bool} {ss : Nat → ByteArray} {es : Nat → Int} (h : RdN w A n bs ss es) (hb : Below w.heap.size w w') : RdN w' A n bs ss es := fun h0 => by
  obtain ⟨b, off, e, hc⟩ := h h0
  exact ⟨b, off, e, fun j hj => ⟨cell_later hb (hc j hj).1, cell_later hb (hc j hj).2.1, cell_later hb (hc j hj).2.2⟩⟩
theorem RdN.congr {w : World} {A : Option Addr} {n : Nat} {bs : Nat → Bool} {ss ss' : Nat → ByteArray} {es es' : Nat → Int} (h : RdN w A n bs ss es) (hf : ∀ j, j < n → ss j = ss' j ∧ es j = es' j) : RdN w A n bs ss' es' := fun h0 => by
  obtain ⟨b, off, e, hc⟩ := h h0
  exact ⟨b, off, e, fun j hj => by rw [← (hf j hj).1, ← (hf j hj).2]; exact hc j hj⟩
def sumD (f : Nat → Dyadic) : Nat → Dyadic | 0 => 0 | k + 1 => sumD f k + f k
def prodD (f : Nat → Dyadic) : Nat → Dyadic | 0 => 1 | k + 1 => prodD f k * f k
theorem db_sum {L T : Nat} {f : Nat → Dyadic} (h : ∀ j, DB L T (f j)) : ∀ k, DB L (T + k) (sumD f k)
  | 0 => db_zero _ _
  | k + 1 => db_add (db_sum h k) (db_up (h k) (Nat.le_refl _) (Nat.le_add_right _ _))
theorem db_one : DB 0 1 1 := ⟨1, rfl, by decide⟩
theorem db_prod {L T : Nat} {f : Nat → Dyadic} (h : ∀ j, DB L T (f j)) : ∀ k, DB (L * k) (T * k + 1) (prodD f k)
  | 0 => db_up db_one (Nat.zero_le _) (by omega)
  | k + 1 => by
    have h1 := db_mul (db_prod h k) (h k)
    exact db_up h1 (by rw [Nat.mul_succ]; exact Nat.le_refl _) (by rw [Nat.mul_succ]; omega)
theorem rdI2B' {w : World} {g : Nat} {s t : ByteArray} {b b' : Bool} (h : Bx w g 27 #[.bool b, .string s, .bool b', .string t]) : RdI w (some ⟨g, 0, none⟩) 2 (fun j => if j = 0 then b else b') (fun j => if j = 0 then s else t) := fun _ =>
  ⟨g, 0, rfl, fun j hj => by
    have : j = 0 ∨ j = 1 := by omega
    rcases this with rfl | rfl
    · exact ⟨h.cel 0, h.cel 1⟩
    · exact ⟨h.cel 2, h.cel 3⟩⟩
/-- The whole numbers' sum and product, of two in any block. -/
theorem iAdd2 {X Y : Int} {g : Nat} {W : World} (h1 : bsz X ≤ 536870912) (h2 : bsz Y ≤ 536870912) (h : Bx W g 27 #[.bool (neg X), .string (mag X), .bool (neg Y), .string (mag Y)]) :
    Calls Tryz.prog 77 #[.slice (some ⟨g, 0, none⟩) 2 2] W fun r w' => r = .returned (.agg #[.bool (neg (X + Y)), .string (mag (X + Y))]) ∧ Below W.heap.size W w' := by
  have h := wAdd_any _ 2 2 _ _ W (by decide) (fun j => by split <;> (rw [mag_size]; assumption)) (rdI2B' h)
  have e : sumI (fun j => ival (if j = 0 then neg X else neg Y) (sval (if j = 0 then mag X else mag Y))) 2 = X + Y := by
    show (0 + ival (neg X) (sval (mag X))) + ival (neg Y) (sval (mag Y)) = _
    rw [Int.zero_add, ival_mk, ival_mk]
  rwa [e] at h
theorem iMul2 {s t : ByteArray} {b b' : Bool} {X Y : Int} {g : Nat} {W : World} (e1 : ival b (sval s) = X) (e2 : ival b' (sval t) = Y) (h1 : s.size ≤ 134217728) (h2 : t.size ≤ 134217728) (h : Bx W g 27 #[.bool b, .string s, .bool b', .string t]) :
    Calls Tryz.prog 42 #[.slice (some ⟨g, 0, none⟩) 2 2] W fun r w' => r = .returned (.agg #[.bool (neg (X * Y)), .string (mag (X * Y))]) ∧ Below W.heap.size W w' := by
  have h := wMul_any _ 2 2 _ _ 134217728 W (by decide) (by decide) (fun j => by split <;> assumption) (by decide) (rdI2B' h)
  have e : prodI (fun j => ival (if j = 0 then b else b') (sval (if j = 0 then s else t))) 2 = X * Y := by
    show (1 * ival b (sval s)) * ival b' (sval t) = _
    rw [Int.one_mul, e1, e2]
  rwa [e] at h

set_option maxRecDepth 100000 in
set_option maxHeartbeats 1000000 in
theorem dAdd_any (A : Option Addr) (n c : Nat) (bs : Nat → Bool) (ss : Nat → ByteArray) (es : Nat → Int) (xs : Nat → Dyadic) (L0 T0 : Nat) (w : World) (hn : n ≤ 1000000) (hnd : ∀ j, ND (bs j) (ss j) (es j) (xs j)) (hdb : ∀ j, DB L0 T0 (xs j)) (hLT : L0 + T0 + n ≤ 4000000) (hr : RdN w A n bs ss es) (hT : TabAt 0 Lib.deBruijn64tab w) :
    Calls Tryz.prog 64 #[.slice A n c] w fun r w' => r = .returned (.agg #[.bool (neg (dm (sumD xs n))), .string (mag (dm (sumD xs n))), .int .i64 (de (sumD xs n))]) ∧ Below w.heap.size w w' := by
  have HT := Lib.hid hT
  have HN := Lib.hid hnd
  have HS := Lib.hid (fun k (hk : k ≤ n) => nd_db (db_sum hdb k) (by omega))
  clear hT hnd hdb hLT
  go_enter Tryz.func64, Tryz.ntmps64
  have X1 := (Bx.new w 29 #[.bool false, .string ⟨#[]⟩, .int .i64 0]).alloc (.cells #[.bool false, .string ⟨#[]⟩, .int .i64 0] 29)
  have X2 := Bx.at1 w (.cells #[.bool false, .string ⟨#[]⟩, .int .i64 0] 29) 29 #[.bool false, .string ⟨#[]⟩, .int .i64 0]
  have hB := b2 w (.cells #[.bool false, .string ⟨#[]⟩, .int .i64 0] 29) (.cells #[.bool false, .string ⟨#[]⟩, .int .i64 0] 29)
  go_wp2_with fail
  generalize (w.alloc (.cells #[.bool false, .string ⟨#[]⟩, .int .i64 0] 29)).alloc (.cells #[.bool false, .string ⟨#[]⟩, .int .i64 0] 29) = w0 at *
  go_loopw [9] (fun i wr => ∃ k : Nat, k ≤ n ∧ i = .int .i64 (k : Nat) ∧ Bx wr w.heap.size 29 #[.bool false, .string ⟨#[]⟩, .int .i64 0] ∧ Bx wr (w.heap.size + 1) 29 #[.bool (neg (dm (sumD xs k))), .string (mag (dm (sumD xs k))), .int .i64 (de (sumD xs k))] ∧ Below w.heap.size w wr) (fun i _ => n - (intOf i).toNat)
  case atStart => exact ⟨0, Nat.zero_le _, rfl, X1, X2, hB⟩
  case round =>
    obtain ⟨k, hk, rfl, Y1, Y2, hB2⟩ := hrel
    by_cases hlt : k < n
    · obtain ⟨b, off, rfl, hc⟩ := hr (by omega)
      obtain ⟨c1, c2, c3⟩ := hc k hlt
      have g1 := cell_later hB2 c1
      have g2 := cell_later hB2 c2
      have g3 := cell_later hB2 c3
      clear hc hr c1 c2 c3 X1 X2 hB
      obtain ⟨K, X, Y, hX, hY, bX, bY, k1, k2, cL⟩ := dLevel_ex (HS.out k hk) (HN.out k)
      obtain ⟨S1, hS1⟩ : ∃ S1, S1 = sumD xs (k + 1) := ⟨_, rfl⟩
      have e1 : dy (X + Y) K = S1 := by rw [← dy_add, hX, hY, hS1]; rfl
      have bXY : bsz (X + Y) ≤ 300000001 := bsz_add_le bX bY
      have cM := Lib.hid (fun W h => dMake_any (mag (X + Y)) (neg (X + Y)) K W (by rw [mag_size]; omega) (by omega) (by omega) h)
      rw [ival_mk, e1] at cM
      have HBX := Lib.hid (And.intro (Nat.le_trans bX (by decide : 300000000 ≤ 536870912)) (Nat.le_trans bY (by decide : 300000000 ≤ 536870912)))
      have H1 := Lib.hid hS1
      clear hX hY bX bY k1 k2 hS1 e1 bXY
      have Z3 := Bx.new wr 29 #[.bool (bs k), .string (ss k), .int .i64 (es k)]
      have Z1 := Y1.alloc (.cells #[.bool (bs k), .string (ss k), .int .i64 (es k)] 29)
      have Z2 := Y2.alloc (.cells #[.bool (bs k), .string (ss k), .int .i64 (es k)] 29)
      have hB3 := nxtA hB2 (.cells #[.bool (bs k), .string (ss k), .int .i64 (es k)] 29)
      obtain ⟨q1, q2, q5, q3, q4, q6⟩ := Z2.three
      obtain ⟨r1, r2, r5, r3, r4, r6⟩ := Z3.three
      clear Y1 Y2 hB2
      go_wp2_with fail
      generalize wr.alloc (.cells #[.bool (bs k), .string (ss k), .int .i64 (es k)] 29) = w4 at *
      refine (cL.out _ (tab_keep HT.out hB3)).mono ?_
      rintro e w5 ⟨rfl, hb⟩
      replace Z1 := Z1.later hb
      replace Z2 := Z2.later hb
      replace hB3 := nxt hB3 hb
      clear hb q1 q2 q5 q3 q4 q6 r1 r2 r5 r3 r4 r6 Z3
      have Z4 := Bx.new w5 106 #[.int .i64 K, .bool (neg X), .string (mag X), .bool (neg Y), .string (mag Y)]
      replace Z1 := Z1.alloc (.cells #[.int .i64 K, .bool (neg X), .string (mag X), .bool (neg Y), .string (mag Y)] 106)
      replace Z2 := Z2.alloc (.cells #[.int .i64 K, .bool (neg X), .string (mag X), .bool (neg Y), .string (mag Y)] 106)
      replace hB3 := nxtA hB3 (.cells #[.int .i64 K, .bool (neg X), .string (mag X), .bool (neg Y), .string (mag Y)] 106)
      go_upto_region 6 with (fail)
      generalize w5.alloc (.cells #[.int .i64 K, .bool (neg X), .string (mag X), .bool (neg Y), .string (mag Y)] 106) = w6 at *
      generalize w5.heap.size = g6 at *
      obtain ⟨bX, bY⟩ := HBX.out
      refine wp_region_k [16, 17, 18, 19, 20, 21, 22, 23, 24] [.eq (.pointer (some ⟨g6, 1, none⟩)), .eq (.agg #[.bool (neg X), .string (mag X)]), .eq (.pointer (some ⟨g6, 3, none⟩)), .eq (.agg #[.bool (neg Y), .string (mag Y)]), .sli w6.heap.size 27 2 #[.bool (neg X), .string (mag X), .bool (neg Y), .string (mag Y)], .eq (.agg #[.bool (neg (X + Y)), .string (mag (X + Y))]), .eq (.pointer (some ⟨g6, 0, none⟩)), .eq (.int .i64 K), .eq (.agg #[.bool (neg (dm (S1))), .string (mag (dm (S1))), .int .i64 (de (S1))])] 27 (by kernel_rfl) (by exact fun _ _ _ _ _ h => h) (by kernel_rfl) (by rfl) ?hop ?htail
      case hop =>
        intro A hA
        have hN : A.tmps.size = 27 := by rw [hA]; rfl
        have q6 : A.tmps.getD 6 undef = .pointer (some ⟨g6, 0, none⟩) := by rw [hA]; rfl
        clear hA
        refine ⟨?_, ?_, ?_, ?_, ?_, ?_, ?_, ?_, ?_, trivial⟩
        · refine kok hN fun u W ev ec ef E B hG hf => ?_
          exact k_val _ rfl rfl hG (by simp [go_sem, B 6 rfl rfl q6]) rfl
        · refine kok hN fun u W ev ec ef E B hG hf => ?_
          exact k_val _ rfl rfl hG (by simp [go_sem, E 16 0 rfl rfl (hf 0 rfl), (Z4.later hG).cel]) rfl
        · refine kok hN fun u W ev ec ef E B hG hf => ?_
          exact k_val _ rfl rfl hG (by simp [go_sem, B 6 rfl rfl q6]) rfl
        · refine kok hN fun u W ev ec ef E B hG hf => ?_
          exact k_val _ rfl rfl hG (by simp [go_sem, E 18 2 rfl rfl (hf 2 rfl), (Z4.later hG).cel]) rfl
        · refine kok hN fun u W ev ec ef E B hG hf => ?_
          exact k_new _ _ rfl (by simp [go_sem, E 17 1 rfl rfl (hf 1 rfl), E 19 3 rfl rfl (hf 3 rfl)]) (nxtA hG _) ⟨_, rfl, below_le hG, Bx.new _ _ _⟩ rfl
        · refine kok hN fun u W ev ec ef E B hG hf => ?_
          obtain ⟨g20, f20, hb20, hx20⟩ := hf 4 rfl
          exact k_cl rfl rfl (by simp [go_sem, ef, E 20 4 rfl rfl f20]) (iAdd2 bX bY hx20) hG (fun _ _ => rfl)
        · refine kok hN fun u W ev ec ef E B hG hf => ?_
          exact k_val _ rfl rfl hG (by simp [go_sem, B 6 rfl rfl q6]) rfl
        · refine kok hN fun u W ev ec ef E B hG hf => ?_
          exact k_val _ rfl rfl hG (by simp [go_sem, E 22 6 rfl rfl (hf 6 rfl), (Z4.later hG).cel]) rfl
        · refine kok hN fun u W ev ec ef E B hG hf => ?_
          exact k_cl rfl rfl (by simp [go_sem, ef, E 21 5 rfl rfl (hf 5 rfl), E 23 7 rfl rfl (hf 7 rfl)]) (cM.out W (tab_keep HT.out (nxt hB3 hG))) hG (fun _ _ => rfl)
      case htail =>
        intro u w7 hG hP hD
        have f24 : u 8 = .agg #[.bool (neg (dm (S1))), .string (mag (dm (S1))), .int .i64 (de (S1))] := hP 8 (by decide)
        simp only [putAll, Act.put, List.setIfInBounds_toArray, List.set_cons_zero, List.set_cons_succ, List.length_cons, List.length_nil, Nat.reduceAdd, List.drop_succ_cons, List.drop_zero, f24]
        replace hB3 := nxt hB3 hG
        replace Z1 := Z1.later hG
        replace Z2 := Z2.later hG
        have HZ := Lib.hid (And.intro Z1 (And.intro Z2 hB3))
        obtain ⟨q1, q2, q5, q3, q4, q6⟩ := Z2.three
        clear hP hD hG f24 Z1 Z2 Z4 hB3 bX bY
        go_wp2
        obtain ⟨Z1, Z2, hB3⟩ := HZ.out
        exact ⟨⟨k + 1, hlt, by go_num, Bx.far3 Z1 (by simp) _ _ _, by rw [← H1.out]; exact Z2.set3 _ _ _, st3 hB3 (Nat.le_add_right _ 1) _ _ _⟩, by simp [intOf]; omega⟩
    · obtain rfl : k = n := by omega
      obtain ⟨p1, p2, p5, p3, p4, p6⟩ := Y1.three
      obtain ⟨q1, q2, q5, _, _, _⟩ := Y2.three
      have HY := Lib.hid Y1
      clear Y1 Y2 X1 X2 hB
      go_wp2_with fail
      exact bodyPost_ret (v := .agg #[.bool (neg (dm (sumD xs k))), .string (mag (dm (sumD xs k))), .int .i64 (de (sumD xs k))]) (by simp [results, Tryz.results64, go_sem, (HY.out.set3 _ _ _).cel]) rfl ⟨rfl, st3 hB2 (Nat.le_refl _) _ _ _⟩

end Go.Proofs.YtibbhpgpleeglaaGreatDoor

namespace Go.Proofs.YtibbhpgpleeglaaGreatDoor

/-- The place of what is left, one being taken out. -/
def skp (r i : Nat) : Nat := if i < r then i else i + 1
/-- A table without a row and a column. -/
def wot (r q : Nat) (xs : Nat → Nat → Dyadic) : Nat → Nat → Dyadic := fun i j => xs (skp r i) (skp q j)
/-- Turned to its negative, at each second place. -/
def alt (k : Nat) (x : Dyadic) : Dyadic := if k % 2 = 1 then -x else x
/-- The determinant, along the first row. -/
def detL : Nat → (Nat → Nat → Dyadic) → Dyadic
  | 0, _ => 1
  | n + 1, xs => sumD (fun k => alt k (xs 0 k * detL n (wot 0 k xs))) (n + 1)
theorem db_alt {L T : Nat} {x : Dyadic} (k : Nat) (h : DB L T x) : DB L T (alt k x) := by
  unfold alt; split
  · exact db_neg h
  · exact h
theorem db_len {L T n : Nat} (hn : n + 1 ≤ 8) (h : (L + T + 8) * 8 ≤ 1000000) : L * (n + 1) + ((T + 8) * (n + 1) + 1) ≤ 1000001 := by
  rw [← Nat.add_assoc, ← Nat.add_mul]
  have h1 : (L + (T + 8)) * (n + 1) ≤ (L + (T + 8)) * 8 := Nat.mul_le_mul_left _ hn
  omega
theorem db_det {L T : Nat} : ∀ (n : Nat) (xs : Nat → Nat → Dyadic), n ≤ 8 → (∀ i j, DB L T (xs i j)) → DB (L * n) ((T + 8) * n + 1) (detL n xs)
  | 0, _, _, _ => by rw [Nat.mul_zero, Nat.mul_zero]; exact db_one
  | n + 1, xs, hn, h => by
    have h1 : ∀ k, DB (L * (n + 1)) (T + ((T + 8) * n + 1)) (alt k (xs 0 k * detL n (wot 0 k xs))) := fun k => by
      have h2 := db_mul (h 0 k) (db_det n (wot 0 k xs) (by omega) (fun i j => h _ _))
      exact db_up (db_alt k h2) (by rw [Nat.mul_add]; omega) (Nat.le_refl _)
    exact db_up (db_sum h1 (n + 1)) (Nat.le_refl _) (by rw [Nat.mul_add]; omega)
theorem db_term {L T n : Nat} {xs : Nat → Nat → Dyadic} (hn : n + 1 ≤ 8) (h : ∀ i j, DB L T (xs i j)) (k : Nat) : DB (L * (n + 1)) ((T + 8) * (n + 1) + 1) (xs 0 k * detL n (wot 0 k xs)) :=
  db_up (db_mul (h 0 k) (db_det n (wot 0 k xs) (by omega) (fun i j => h _ _))) (by rw [Nat.mul_add]; omega) (by rw [Nat.mul_add]; omega)
theorem db_part {L T n : Nat} {xs : Nat → Nat → Dyadic} (hn : n + 1 ≤ 8) (h : ∀ i j, DB L T (xs i j)) (k : Nat) (hk : k ≤ 8) : DB (L * (n + 1)) ((T + 8) * (n + 1) + 1) (sumD (fun k => alt k (xs 0 k * detL n (wot 0 k xs))) k) := by
  have h1 : ∀ k, DB (L * (n + 1)) (T + ((T + 8) * n + 1)) (alt k (xs 0 k * detL n (wot 0 k xs))) := fun k => by
    have h2 := db_mul (h 0 k) (db_det n (wot 0 k xs) (by omega) (fun i j => h _ _))
    exact db_up (db_alt k h2) (by rw [Nat.mul_add]; omega) (Nat.le_refl _)
  exact db_up (db_sum h1 k) (Nat.le_refl _) (by rw [Nat.mul_add]; omega)
end Go.Proofs.YtibbhpgpleeglaaGreatDoor

