/- The walks and plain laws beneath the statements. -/
import Derived.Test.YtibbhpgpleeglaaGreatDoorPA27
import Derived.Test.YtibbhpgpleeglaaGreatDoorPA30
import Derived.Test.YtibbhpgpleeglaaGreatDoorPA28
import Derived.Test.YtibbhpgpleeglaaGreatDoorPA23
namespace Go.Proofs.YtibbhpgpleeglaaGreatDoor
open Go Go.RowKit

theorem rdNeg_vn {x : Dyadic} {L T : Nat} {w : World} (h : DB L T x) (hLT : L + T ≤ 4000000) :
    Calls Tryz.prog 36 #[.agg #[.bool (neg (dm x)), .string (mag (dm x)), .int .i64 (de x)]] w fun r w' => r = .returned (.agg #[.bool (neg (dm (-x))), .string (mag (dm (-x))), .int .i64 (de (-x))]) ∧ Below w.heap.size w w' := by
  have h1 := db_form h
  have h2 := db_size h
  have c := rdNeg_any (mag (dm x)) (neg (dm x)) (de x) w (by omega) (by omega) (by omega)
  rw [ival_mk, dy_dm] at c
  exact c
set_option maxRecDepth 100000 in
set_option maxHeartbeats 1000000 in
theorem rdet_zero (A : Option Addr) (c : Nat) (w : World) :
    Calls Tryz.prog 15 #[.slice A 0 c] w fun r w' => r = .returned (.agg #[.bool (neg (dm (1))), .string (mag (dm (1))), .int .i64 (de (1))]) ∧ Below w.heap.size w w' := by
  have c1 := Lib.hid (fun W => rdOf_any 1 W (by decide) (by decide))
  simp only [dy_one] at c1
  go_enter Tryz.func15, Tryz.ntmps15
  have X0 := Bx.new w 29 #[.bool false, .string ⟨#[]⟩, .int .i64 0]
  have hB := b1 w (.cells #[.bool false, .string ⟨#[]⟩, .int .i64 0] 29)
  go_wp2_with fail
  generalize w.alloc (.cells #[.bool false, .string ⟨#[]⟩, .int .i64 0] 29) = w0 at *
  refine (c1.out _).mono ?_
  rintro e w1 ⟨rfl, hb⟩
  replace X0 := X0.later hb
  replace hB := nxt hB hb
  clear hb c1
  obtain ⟨q1, q2, q3, q4, q5, q6⟩ := X0.three
  have HY := Lib.hid (And.intro X0 hB)
  clear X0 hB
  go_wp2
  exact bodyPost_ret (v := .agg #[.bool (neg (dm (1))), .string (mag (dm (1))), .int .i64 (de (1))]) (by simp [results, Tryz.results15, go_sem, (HY.out.1.set3 _ _ _).cel]) rfl ⟨rfl, st3 HY.out.2 (Nat.le_refl _) _ _ _⟩
set_option maxRecDepth 100000 in
set_option maxHeartbeats 2000000 in
theorem rdet_x (n N : Nat) (hN : N = n + 1) (L T0 : Nat) (hLT : (L + T0 + 8) * 8 ≤ 1000000) (hn : N ≤ 8) (A : Option Addr) (c : Nat) (bs : Nat → Nat → Bool) (ss : Nat → Nat → ByteArray) (es : Nat → Nat → Int) (xs : Nat → Nat → Dyadic) (w : World) (hx : ∀ i j, ND (bs i j) (ss i j) (es i j) (xs i j)) (hlo : ∀ i j, -1000000 ≤ es i j) (hdb : ∀ i j, DB L T0 (xs i j)) (hr : RdM w A N (fun _ => N) bs ss es)
    (ih : ∀ k (B : Option Addr) (d : Nat) (W : World), RdM W B n (fun _ => n) (fun i j => bs (skp 0 i) (skp k j)) (fun i j => ss (skp 0 i) (skp k j)) (fun i j => es (skp 0 i) (skp k j)) → Calls Tryz.prog 15 #[.slice B n d] W fun r w' => r = .returned (.agg #[.bool (neg (dm (detL n (wot 0 k xs)))), .string (mag (dm (detL n (wot 0 k xs)))), .int .i64 (de (detL n (wot 0 k xs)))]) ∧ Below W.heap.size W w') :
    Calls Tryz.prog 15 #[.slice A N c] w fun r w' => r = .returned (.agg #[.bool (neg (dm (sumD (fun k => alt k (xs 0 k * detL n (wot 0 k xs))) N))), .string (mag (dm (sumD (fun k => alt k (xs 0 k * detL n (wot 0 k xs))) N))), .int .i64 (de (sumD (fun k => alt k (xs 0 k * detL n (wot 0 k xs))) N))]) ∧ Below w.heap.size w w' := by
  have HR := Lib.hid hr
  have HX := Lib.hid hx
  have HLX := Lib.hid hlo
  have HDX := Lib.hid hdb
  have HIH := Lib.hid ih
  have HNN := Lib.hid (And.intro hN hLT)
  have hN0 : (0 : Int) < (N : Int) := by omega
  have hNb : ((N : Int) == 0) = false := by simp; omega
  have hNc : ¬ (N : Int) = 0 := by omega
  have hNz : ¬ N = 0 := by omega
  clear hr hx hlo hdb ih hN hLT
  go_enter Tryz.func15, Tryz.ntmps15
  have X2 := Bx.new w 29 #[.bool false, .string ⟨#[]⟩, .int .i64 0]
  have X3 := Bx.at1 w (.cells #[.bool false, .string ⟨#[]⟩, .int .i64 0] 29) 29 #[.bool false, .string ⟨#[]⟩, .int .i64 0]
  have hB := b2 w (.cells #[.bool false, .string ⟨#[]⟩, .int .i64 0] 29) (.cells #[.bool false, .string ⟨#[]⟩, .int .i64 0] 29)
  replace X2 := X2.alloc (.cells #[.bool false, .string ⟨#[]⟩, .int .i64 0] 29)
  go_wp2_with fail
  have Z3 : Bx ((w.alloc (.cells #[.bool false, .string ⟨#[]⟩, .int .i64 0] 29)).alloc (.cells #[.bool false, .string ⟨#[]⟩, .int .i64 0] 29)) (w.heap.size + 1) 29 #[.bool false, .string ⟨#[]⟩, .int .i64 0] := X3
  generalize ((w.alloc (.cells #[.bool false, .string ⟨#[]⟩, .int .i64 0] 29)).alloc (.cells #[.bool false, .string ⟨#[]⟩, .int .i64 0] 29)) = w0 at *
  clear X3
  go_loopw [4] (fun i wr => ∃ k : Nat, k ≤ N ∧ i = .int .i64 (k : Nat) ∧ Bx wr w.heap.size 29 #[.bool false, .string ⟨#[]⟩, .int .i64 0] ∧ Bx wr (w.heap.size + 1) 29 #[.bool (neg (dm (sumD (fun k => alt k (xs 0 k * detL n (wot 0 k xs))) k))), .string (mag (dm (sumD (fun k => alt k (xs 0 k * detL n (wot 0 k xs))) k))), .int .i64 (de (sumD (fun k => alt k (xs 0 k * detL n (wot 0 k xs))) k))] ∧ Below w.heap.size w wr) (fun i _ => N - (RowKit.intOf i).toNat)
  case atStart => exact ⟨0, Nat.zero_le _, rfl, X2, Z3, hB⟩
  case round =>
    obtain ⟨k, hk, rfl, Y2, Y3, hB⟩ := hrel
    by_cases hlt : k < N
    · obtain ⟨b, off, rfl, hc⟩ := (HR.out.below hB) (by omega)
      obtain ⟨Ai, ci, _, hAi, g1, hi1⟩ := hc 0 (by omega)
      replace g1 : wr.cell? ⟨b, off, none⟩ = some (.slice Ai N ci) := g1
      obtain ⟨bi, offi, rfl, hci⟩ := hi1.num (show 0 < N by omega)
      obtain ⟨g2, g3, g4⟩ := hci k hlt
      have hki : (k : Int) < (N : Int) := by omega
      have hkj : (0 : Int) ≤ (k : Int) := by omega
      have HR0 := Lib.hid (HR.out.below hB)
      have HW : Hid (∀ W, RdM W (some ⟨b, off, none⟩) N (fun _ => N) bs ss es → Calls Tryz.prog 35 #[.slice (some ⟨b, off, none⟩) N c, .int .i64 0, .int .i64 (k : Nat)] W fun e w' => (∃ v, e = .returned v ∧ ∃ B d, v = .slice B n d ∧ RdM w' B n (fun _ => n) (fun i j => bs (skp 0 i) (skp k j)) (fun i j => ss (skp 0 i) (skp k j)) (fun i j => es (skp 0 i) (skp k j))) ∧ Below W.heap.size W w') := Lib.hid fun W h => by
        have c1 := rwithout_any (some ⟨b, off, none⟩) N c 0 k bs ss es W (by omega) (by omega) hlt h
        rw [show N - 1 = n by have := HNN.out.1; omega] at c1
        exact c1.mono fun e w' ⟨⟨B, d, e1, e2⟩, hb⟩ => ⟨⟨_, e1, B, d, rfl, e2⟩, hb⟩
      have HI := Lib.hid (HIH.out k)
      have h8 : n + 1 ≤ 8 := by have := HNN.out.1; omega
      have hdd := db_det n (wot 0 k xs) (by omega) (fun i j => HDX.out _ _)
      have HLEN := Lib.hid (db_len h8 HNN.out.2)
      have hl2 : L * n + ((T0 + 8) * n + 1) ≤ L * (n + 1) + ((T0 + 8) * (n + 1) + 1) := by rw [Nat.mul_add, Nat.mul_add]; omega
      have HD := Lib.hid (nd_db hdd (by have := HLEN.out; omega))
      have HLO : Hid (-1073741824 ≤ es 0 k + de (detL n (wot 0 k xs))) := Lib.hid (by have h1 := (db_form hdd).1; have h2 := HLX.out 0 k; have := HLEN.out; omega)
      have HDX1 := Lib.hid (db_term h8 HDX.out k)
      have HDS := Lib.hid (db_part h8 HDX.out k (by omega))
      have HHB := Lib.hid (And.intro Y2 (And.intro Y3 hB))
      clear hc hi1 hci hdd hl2 h8 hB Y2 Y3 X2 Z3
      go_upto_region 7 with (fail)
      refine wp_region_k [17, 18, 19, 20, 21, 22, 23, 24, 25, 26, 27, 5] [.eq (.slice (some ⟨b, off, none⟩) N c), .eq (.pointer (some ⟨b, off, none⟩)), .eq (.slice (some ⟨bi, offi, none⟩) N ci), .eq (.int .i64 (k : Nat)), .eq (.pointer (some ⟨bi, offi + k * 3, none⟩)), .eq (.agg #[.bool (bs 0 k), .string (ss 0 k), .int .i64 (es 0 k)]), .eq (.slice (some ⟨b, off, none⟩) N c), .eq (.int .i64 (k : Nat)), .prd (fun v W => ∃ B d, v = .slice B n d ∧ RdM W B n (fun _ => n) (fun i j => bs (skp 0 i) (skp k j)) (fun i j => ss (skp 0 i) (skp k j)) (fun i j => es (skp 0 i) (skp k j))) (fun v w w' hb ⟨B, d, e, h⟩ => ⟨B, d, e, RdM.below h hb⟩), .eq (.agg #[.bool (neg (dm (detL n (wot 0 k xs)))), .string (mag (dm (detL n (wot 0 k xs)))), .int .i64 (de (detL n (wot 0 k xs)))]), .eq (.agg #[.bool (neg (dm (xs 0 k * detL n (wot 0 k xs)))), .string (mag (dm (xs 0 k * detL n (wot 0 k xs)))), .int .i64 (de (xs 0 k * detL n (wot 0 k xs)))]), .ptr wr.heap.size 29 #[.bool false, .string ⟨#[]⟩, .int .i64 0]] 37 (by kernel_rfl) (by exact fun _ _ _ _ _ h => h) (by kernel_rfl) (by rfl) ?hop ?htail
      case hop =>
        intro A hA
        have hN : A.tmps.size = 37 := by rw [hA]; rfl
        have q0 : A.tmps.getD 0 undef = .slice (some ⟨b, off, none⟩) N c := by rw [hA]; rfl
        have q4 : A.tmps.getD 4 undef = .int .i64 (k : Nat) := by rw [hA]; rfl
        clear hA
        refine ⟨?_, ?_, ?_, ?_, ?_, ?_, ?_, ?_, ?_, ?_, ?_, ?_, trivial⟩
        · refine kok hN fun u W ev ec ef E B hG hf => ?_
          exact k_val _ rfl rfl hG (by simp [go_sem, B 0 rfl rfl q0]) rfl
        · refine kok hN fun u W ev ec ef E B hG hf => ?_
          exact k_val _ rfl rfl hG (by simp [go_sem, ec, E 17 0 rfl rfl (hf 0 rfl), hNz]) rfl
        · refine kok hN fun u W ev ec ef E B hG hf => ?_
          exact k_val _ rfl rfl hG (by simp [go_sem, E 18 1 rfl rfl (hf 1 rfl), cell_later hG g1]) rfl
        · refine kok hN fun u W ev ec ef E B hG hf => ?_
          exact k_val _ rfl rfl hG (by simp [go_sem, B 4 rfl rfl q4]) rfl
        · refine kok hN fun u W ev ec ef E B hG hf => ?_
          exact k_val _ rfl rfl hG (by simp [go_sem, E 19 2 rfl rfl (hf 2 rfl), E 20 3 rfl rfl (hf 3 rfl), hki, hkj]) rfl
        · refine kok hN fun u W ev ec ef E B hG hf => ?_
          exact k_val _ rfl rfl hG (by simp [go_sem, E 21 4 rfl rfl (hf 4 rfl), cell_later hG g2, cell_later hG g3, cell_later hG g4]) rfl
        · refine kok hN fun u W ev ec ef E B hG hf => ?_
          exact k_val _ rfl rfl hG (by simp [go_sem, B 0 rfl rfl q0]) rfl
        · refine kok hN fun u W ev ec ef E B hG hf => ?_
          exact k_val _ rfl rfl hG (by simp [go_sem, B 4 rfl rfl q4]) rfl
        · refine kok hN fun u W ev ec ef E B hG hf => ?_
          exact k_cp rfl rfl (by simp [go_sem, ec, ef, E 23 6 rfl rfl (hf 6 rfl), E 24 7 rfl rfl (hf 7 rfl)]) ((HW.out _ (HR0.out.below hG))) hG (fun _ _ h => h)
        · refine kok hN fun u W ev ec ef E B hG hf => ?_
          obtain ⟨B25, d25, f25, h25⟩ := hf 8 rfl
          exact k_cl rfl rfl (by simp [go_sem, ef, E 25 8 rfl rfl f25]) (HI.out B25 d25 _ h25) hG (fun _ _ => rfl)
        · refine kok hN fun u W ev ec ef E B hG hf => ?_
          exact k_cl rfl rfl (by simp [go_sem, ef, E 22 5 rfl rfl (hf 5 rfl), E 26 9 rfl rfl (hf 9 rfl)]) (rdTimes_any _ (HX.out 0 k) HD.out HLO.out) hG (fun _ _ => rfl)
        · refine kok hN fun u W ev ec ef E B hG hf => ?_
          exact k_new _ _ rfl (by simp [go_sem]) (nxtA hG _) ⟨_, rfl, below_le hG, Bx.new _ _ _⟩ rfl
      case htail =>
        intro u w5 hG hP _
        have f27 : u 10 = .agg #[.bool (neg (dm (xs 0 k * detL n (wot 0 k xs)))), .string (mag (dm (xs 0 k * detL n (wot 0 k xs)))), .int .i64 (de (xs 0 k * detL n (wot 0 k xs)))] := hP 10 (by decide)
        obtain ⟨g5, f5, hb5, hx5⟩ := hP 11 (by decide)
        simp only [putAll, Act.put, List.setIfInBounds_toArray, List.set_cons_zero, List.set_cons_succ, List.length_cons, List.length_nil, Nat.reduceAdd, List.drop_succ_cons, List.drop_zero, f27, f5]
        obtain ⟨Y2, Y3, hB⟩ := HHB.out
        have L5 := Lib.hid (show w.heap.size ≠ g5 from Nat.ne_of_lt (Nat.lt_of_lt_of_le Y2.lt hb5))
        have L6 := Lib.hid (show w.heap.size + 1 ≠ g5 from Nat.ne_of_lt (Nat.lt_of_lt_of_le Y3.lt hb5))
        have L7 := Lib.hid (show w.heap.size ≤ g5 from Nat.le_trans hB.size hb5)
        replace Y2 := Y2.later hG
        replace Y3 := Y3.later hG
        have hB3 := nxt hB hG
        have Y5 := hx5
        clear hP hG f27 f5 hb5 hx5 g1 g2 g3 g4 hB
        obtain ⟨q1, q2, q3, q4, q5, q6⟩ := Y5.three
        have HH := Lib.hid (And.intro Y2 (And.intro Y3 hB3))
        clear Y2 Y3 hB3 HHB
        go_upto_region 8 with (fail)
        obtain ⟨Y2, Y3, hB3⟩ := HH.out
        clear HH
        replace Y2 : Bx (((w5.setCell ⟨g5, 0, none⟩ (.bool (neg (dm (xs 0 k * detL n (wot 0 k xs)))))).setCell ⟨g5, 1, none⟩ (.string (mag (dm (xs 0 k * detL n (wot 0 k xs)))))).setCell ⟨g5, 2, none⟩ (.int .i64 (de (xs 0 k * detL n (wot 0 k xs))))) w.heap.size 29 #[.bool false, .string ⟨#[]⟩, .int .i64 0] := Y2.far3 L5.out _ _ _
        replace Y3 : Bx (((w5.setCell ⟨g5, 0, none⟩ (.bool (neg (dm (xs 0 k * detL n (wot 0 k xs)))))).setCell ⟨g5, 1, none⟩ (.string (mag (dm (xs 0 k * detL n (wot 0 k xs)))))).setCell ⟨g5, 2, none⟩ (.int .i64 (de (xs 0 k * detL n (wot 0 k xs))))) (w.heap.size + 1) 29 #[.bool (neg (dm (sumD (fun k => alt k (xs 0 k * detL n (wot 0 k xs))) k))), .string (mag (dm (sumD (fun k => alt k (xs 0 k * detL n (wot 0 k xs))) k))), .int .i64 (de (sumD (fun k => alt k (xs 0 k * detL n (wot 0 k xs))) k))] := Y3.far3 L6.out _ _ _
        replace Y5 : Bx (((w5.setCell ⟨g5, 0, none⟩ (.bool (neg (dm (xs 0 k * detL n (wot 0 k xs)))))).setCell ⟨g5, 1, none⟩ (.string (mag (dm (xs 0 k * detL n (wot 0 k xs)))))).setCell ⟨g5, 2, none⟩ (.int .i64 (de (xs 0 k * detL n (wot 0 k xs))))) g5 29 #[.bool (neg (dm (xs 0 k * detL n (wot 0 k xs)))), .string (mag (dm (xs 0 k * detL n (wot 0 k xs)))), .int .i64 (de (xs 0 k * detL n (wot 0 k xs)))] := Y5.set3 _ _ _
        replace hB3 : Below w.heap.size w (((w5.setCell ⟨g5, 0, none⟩ (.bool (neg (dm (xs 0 k * detL n (wot 0 k xs)))))).setCell ⟨g5, 1, none⟩ (.string (mag (dm (xs 0 k * detL n (wot 0 k xs)))))).setCell ⟨g5, 2, none⟩ (.int .i64 (de (xs 0 k * detL n (wot 0 k xs))))) := st3 hB3 L7.out _ _ _
        clear q1 q2 q3 q4 q5 q6
        generalize (((w5.setCell ⟨g5, 0, none⟩ (.bool (neg (dm (xs 0 k * detL n (wot 0 k xs)))))).setCell ⟨g5, 1, none⟩ (.string (mag (dm (xs 0 k * detL n (wot 0 k xs)))))).setCell ⟨g5, 2, none⟩ (.int .i64 (de (xs 0 k * detL n (wot 0 k xs))))) = w6 at *
        by_cases hk2 : k % 2 = 1
        · have hr2 : ((k : Int).tmod 2 == 1) = true := by rw [Int.tmod_eq_emod_of_nonneg hkj]; simp; omega
          have hr3 : (k : Int) % 2 = 1 := by omega
          obtain ⟨q1, q2, q3, q4, q5, q6⟩ := Y5.three
          have HH := Lib.hid (And.intro Y2 (And.intro Y3 hB3))
          clear Y2 Y3 hB3
          have cN := Lib.hid (fun W => rdNeg_vn (w := W) HDX1.out (by have := HLEN.out; omega))
          go_wp2_with fail
          refine (cN.out _).mono ?_
          rintro e w7 ⟨rfl, hb⟩
          obtain ⟨Y2, Y3, hB3⟩ := HH.out
          replace Y2 := Y2.later hb
          replace Y3 := Y3.later hb
          replace Y5 := Y5.later hb
          replace hB3 := nxt hB3 hb
          clear hb cN HH q1 q2 q3 q4 q5 q6
          obtain ⟨q1, q2, q3, q4, q5, q6⟩ := Y5.three
          have HH := Lib.hid (And.intro Y2 (And.intro Y3 hB3))
          clear Y2 Y3 hB3
          go_upto_region 10 with (fail)
          obtain ⟨Y2, Y3, hB3⟩ := HH.out
          clear HH
          replace Y2 : Bx (((w7.setCell ⟨g5, 0, none⟩ (.bool (neg (dm (-(xs 0 k * detL n (wot 0 k xs))))))).setCell ⟨g5, 1, none⟩ (.string (mag (dm (-(xs 0 k * detL n (wot 0 k xs))))))).setCell ⟨g5, 2, none⟩ (.int .i64 (de (-(xs 0 k * detL n (wot 0 k xs)))))) w.heap.size 29 #[.bool false, .string ⟨#[]⟩, .int .i64 0] := Y2.far3 L5.out _ _ _
          replace Y3 : Bx (((w7.setCell ⟨g5, 0, none⟩ (.bool (neg (dm (-(xs 0 k * detL n (wot 0 k xs))))))).setCell ⟨g5, 1, none⟩ (.string (mag (dm (-(xs 0 k * detL n (wot 0 k xs))))))).setCell ⟨g5, 2, none⟩ (.int .i64 (de (-(xs 0 k * detL n (wot 0 k xs)))))) (w.heap.size + 1) 29 #[.bool (neg (dm (sumD (fun k => alt k (xs 0 k * detL n (wot 0 k xs))) k))), .string (mag (dm (sumD (fun k => alt k (xs 0 k * detL n (wot 0 k xs))) k))), .int .i64 (de (sumD (fun k => alt k (xs 0 k * detL n (wot 0 k xs))) k))] := Y3.far3 L6.out _ _ _
          replace Y5 : Bx (((w7.setCell ⟨g5, 0, none⟩ (.bool (neg (dm (-(xs 0 k * detL n (wot 0 k xs))))))).setCell ⟨g5, 1, none⟩ (.string (mag (dm (-(xs 0 k * detL n (wot 0 k xs))))))).setCell ⟨g5, 2, none⟩ (.int .i64 (de (-(xs 0 k * detL n (wot 0 k xs)))))) g5 29 #[.bool (neg (dm (-(xs 0 k * detL n (wot 0 k xs))))), .string (mag (dm (-(xs 0 k * detL n (wot 0 k xs))))), .int .i64 (de (-(xs 0 k * detL n (wot 0 k xs))))] := Y5.set3 _ _ _
          replace hB3 : Below w.heap.size w (((w7.setCell ⟨g5, 0, none⟩ (.bool (neg (dm (-(xs 0 k * detL n (wot 0 k xs))))))).setCell ⟨g5, 1, none⟩ (.string (mag (dm (-(xs 0 k * detL n (wot 0 k xs))))))).setCell ⟨g5, 2, none⟩ (.int .i64 (de (-(xs 0 k * detL n (wot 0 k xs)))))) := st3 hB3 L7.out _ _ _
          clear q1 q2 q3 q4 q5 q6
          generalize (((w7.setCell ⟨g5, 0, none⟩ (.bool (neg (dm (-(xs 0 k * detL n (wot 0 k xs))))))).setCell ⟨g5, 1, none⟩ (.string (mag (dm (-(xs 0 k * detL n (wot 0 k xs))))))).setCell ⟨g5, 2, none⟩ (.int .i64 (de (-(xs 0 k * detL n (wot 0 k xs)))))) = w8 at *
          have HDX2 := Lib.hid (db_neg HDX1.out)
          have ea : alt k (xs 0 k * detL n (wot 0 k xs)) = -(xs 0 k * detL n (wot 0 k xs)) := by unfold alt; rw [if_pos hk2]
          have HEA := Lib.hid ea
          clear ea
          have cP := Lib.hid (fun W => rdPlus_any W (nd_db HDS.out (by have := HLEN.out; omega)) (nd_db HDX2.out (by have := HLEN.out; omega)) HDS.out HDX2.out (by have := HLEN.out; omega))
          obtain ⟨q1, q2, q3, _, _, _⟩ := Y3.three
          obtain ⟨r1, r2, r3, _, _, _⟩ := Y5.three
          have HH := Lib.hid (And.intro Y2 (And.intro Y3 hB3))
          clear Y2 Y3 Y5 hB3
          go_wp2_with fail
          refine (cP.out _).mono ?_
          rintro e w9 ⟨rfl, hb⟩
          obtain ⟨Y2, Y3, hB3⟩ := HH.out
          replace Y2 := Y2.later hb
          replace Y3 := Y3.later hb
          replace hB3 := nxt hB3 hb
          clear hb cP HH q1 q2 q3 r1 r2 r3
          obtain ⟨q1, q2, q3, q4, q5, q6⟩ := Y3.three
          have HZ := Lib.hid (And.intro Y2 (And.intro Y3 hB3))
          clear Y2 Y3 hB3
          go_wp2
          refine ⟨⟨k + 1, by omega, by go_num, HZ.out.1.far3 (by omega) _ _ _, ?_, st3 HZ.out.2.2 (by omega) _ _ _⟩, by simp [RowKit.intOf]; omega⟩
          have e1 : sumD (fun k => alt k (xs 0 k * detL n (wot 0 k xs))) (k + 1) = sumD (fun k => alt k (xs 0 k * detL n (wot 0 k xs))) k + (-(xs 0 k * detL n (wot 0 k xs))) := by
            show _ + alt k (xs 0 k * detL n (wot 0 k xs)) = _
            rw [HEA.out]
          rw [e1]
          exact HZ.out.2.1.set3 _ _ _
        · have hr2 : ((k : Int).tmod 2 == 1) = false := by rw [Int.tmod_eq_emod_of_nonneg hkj]; simp; omega
          have hr3 : (k : Int) % 2 = 0 := by omega
          have HDX2 := HDX1
          go_upto_region 10 with (fail)
          have ea : alt k (xs 0 k * detL n (wot 0 k xs)) = xs 0 k * detL n (wot 0 k xs) := by unfold alt; rw [if_neg hk2]
          have HEA := Lib.hid ea
          clear ea
          have cP := Lib.hid (fun W => rdPlus_any W (nd_db HDS.out (by have := HLEN.out; omega)) (nd_db HDX2.out (by have := HLEN.out; omega)) HDS.out HDX2.out (by have := HLEN.out; omega))
          obtain ⟨q1, q2, q3, _, _, _⟩ := Y3.three
          obtain ⟨r1, r2, r3, _, _, _⟩ := Y5.three
          have HH := Lib.hid (And.intro Y2 (And.intro Y3 hB3))
          clear Y2 Y3 Y5 hB3
          go_wp2_with fail
          refine (cP.out _).mono ?_
          rintro e w9 ⟨rfl, hb⟩
          obtain ⟨Y2, Y3, hB3⟩ := HH.out
          replace Y2 := Y2.later hb
          replace Y3 := Y3.later hb
          replace hB3 := nxt hB3 hb
          clear hb cP HH q1 q2 q3 r1 r2 r3
          obtain ⟨q1, q2, q3, q4, q5, q6⟩ := Y3.three
          have HZ := Lib.hid (And.intro Y2 (And.intro Y3 hB3))
          clear Y2 Y3 hB3
          go_wp2
          refine ⟨⟨k + 1, by omega, by go_num, HZ.out.1.far3 (by omega) _ _ _, ?_, st3 HZ.out.2.2 (by omega) _ _ _⟩, by simp [RowKit.intOf]; omega⟩
          have e1 : sumD (fun k => alt k (xs 0 k * detL n (wot 0 k xs))) (k + 1) = sumD (fun k => alt k (xs 0 k * detL n (wot 0 k xs))) k + (xs 0 k * detL n (wot 0 k xs)) := by
            show _ + alt k (xs 0 k * detL n (wot 0 k xs)) = _
            rw [HEA.out]
          rw [e1]
          exact HZ.out.2.1.set3 _ _ _
    · obtain rfl : k = N := by omega
      have hlti : ¬ (k : Int) < (k : Int) := by omega
      obtain ⟨q1, q2, q3, _, _, _⟩ := Y3.three
      obtain ⟨r1, r2, r3, r4, r5, r6⟩ := Y2.three
      have HZ := Lib.hid (And.intro Y2 hB)
      clear Y2 Y3 hB X2 Z3
      go_wp2
      exact bodyPost_ret (v := .agg #[.bool (neg (dm (sumD (fun k => alt k (xs 0 k * detL n (wot 0 k xs))) k))), .string (mag (dm (sumD (fun k => alt k (xs 0 k * detL n (wot 0 k xs))) k))), .int .i64 (de (sumD (fun k => alt k (xs 0 k * detL n (wot 0 k xs))) k))]) (by simp [results, Tryz.results15, go_sem, (HZ.out.1.set3 _ _ _).cel]) rfl ⟨rfl, st3 HZ.out.2 (Nat.le_refl _) _ _ _⟩
end Go.Proofs.YtibbhpgpleeglaaGreatDoor

namespace Go.Proofs.YtibbhpgpleeglaaGreatDoor
open Go Go.RowKit

/-- The document's Det, of any number of rows. -/
theorem rdet_any (L T0 : Nat) (hLT : (L + T0 + 8) * 8 ≤ 1000000) : ∀ (n : Nat), n ≤ 8 → ∀ (A : Option Addr) (c : Nat) (bs : Nat → Nat → Bool) (ss : Nat → Nat → ByteArray) (es : Nat → Nat → Int) (xs : Nat → Nat → Dyadic) (w : World), (∀ i j, ND (bs i j) (ss i j) (es i j) (xs i j)) → (∀ i j, -1000000 ≤ es i j) → (∀ i j, DB L T0 (xs i j)) → RdM w A n (fun _ => n) bs ss es →
    Calls Tryz.prog 15 #[.slice A n c] w fun r w' => r = .returned (.agg #[.bool (neg (dm (detL n xs))), .string (mag (dm (detL n xs))), .int .i64 (de (detL n xs))]) ∧ Below w.heap.size w w'
  | 0, _, A, c, _, _, _, _, w, _, _, _, _ => rdet_zero A c w
  | n + 1, hn, A, c, bs, ss, es, xs, w, hx, hlo, hdb, hr => rdet_x n (n + 1) rfl L T0 hLT hn A c bs ss es xs w hx hlo hdb hr fun k B d W h =>
    rdet_any L T0 hLT n (by omega) B d _ _ _ (wot 0 k xs) W (fun _ _ => hx _ _) (fun _ _ => hlo _ _) (fun _ _ => hdb _ _) h
/-- The adjugate. -/
def adjL (N : Nat) (xs : Nat → Nat → Dyadic) (i q : Nat) : Dyadic := alt (i + q) (detL (N - 1) (wot q i xs))
/-- Stores elsewhere. -/
theorem OwnK.off3 {w : World} {base : Nat} {e : TypeId} {k : Nat} {v : Value} {n : Nat} {f : Nat → List Value} (h : OwnK w base e k v n f) {g : Nat} (hg : ∀ b, v.ownBlock = some b → b ≠ g) (x y z : Value) : OwnK (((w.setCell ⟨g, 0, none⟩ x).setCell ⟨g, 1, none⟩ y).setCell ⟨g, 2, none⟩ z) base e k v n f := by
  refine ⟨h.1, ?_⟩
  rcases h.2 with h0 | ⟨g', cap, cur, h1, hb, hh, h3⟩
  · exact .inl h0
  · have hne : g' ≠ g := hg g' (by rw [h1]; rfl)
    exact .inr ⟨g', cap, cur, h1, hb, (Below.heap_setCell _ ⟨g, 2, none⟩ z g' hne).trans ((Below.heap_setCell _ ⟨g, 1, none⟩ y g' hne).trans ((Below.heap_setCell w ⟨g, 0, none⟩ x g' hne).trans hh)), h3⟩
set_option maxRecDepth 100000 in
set_option maxHeartbeats 2000000 in
theorem radj_any (N : Nat) (L T0 : Nat) (hLT : (L + T0 + 8) * 8 ≤ 1000000) (hn : N ≤ 8) (A : Option Addr) (c : Nat) (bs : Nat → Nat → Bool) (ss : Nat → Nat → ByteArray) (es : Nat → Nat → Int) (xs : Nat → Nat → Dyadic) (w : World) (hx : ∀ i j, ND (bs i j) (ss i j) (es i j) (xs i j)) (hdb : ∀ i j, DB L T0 (xs i j)) (hlo : ∀ i j, -1000000 ≤ es i j) (hr : RdM w A N (fun _ => N) bs ss es) :
    Calls Tryz.prog 16 #[.slice A N c] w fun e w' => (∃ C d, e = .returned (.slice C N d) ∧ RdM w' C N (fun _ => N) (fun i q => neg (dm (adjL N xs i q))) (fun i q => mag (dm (adjL N xs i q))) (fun i q => de (adjL N xs i q))) ∧ Below w.heap.size w w' := by
  have HR := Lib.hid hr
  have HX := Lib.hid hx
  have HDB := Lib.hid hdb
  have HLO := Lib.hid hlo
  have HLT := Lib.hid hLT
  clear hr hx hdb hLT hlo
  go_enter Tryz.func16, Tryz.ntmps16
  go_wp2_with fail
  go_loopw [3, 4] (fun v i wr => ∃ k : Nat, k ≤ N ∧ i = .int .i64 (k : Nat) ∧ OwnM wr w.heap.size v k (fun _ => N) (fun i q => neg (dm (adjL N xs i q))) (fun i q => mag (dm (adjL N xs i q))) (fun i q => de (adjL N xs i q)) ∧ Below w.heap.size w wr) (fun _ i _ => N - (RowKit.intOf i).toNat)
  case atStart => exact ⟨0, Nat.zero_le _, rfl, OwnT.nil_ _ _ _ _ _ _, Below.refl _ _⟩
  case round =>
    obtain ⟨k, hk, rfl, hown, hB⟩ := hrel
    by_cases hlt : k < N
    · have hlti : (k : Int) < (N : Int) := by omega
      have HOW := Lib.hid (And.intro hown hB)
      clear hown hB
      go_wp2_with fail
      obtain ⟨wo, hwo⟩ : ∃ x, x = wr := ⟨_, rfl⟩
      subst hwo
      have hol := OwnK.nil_ wo wo.heap.size 29 3 (cel3 (fun j => neg (dm (adjL N xs k j))) (fun j => mag (dm (adjL N xs k j))) (fun j => de (adjL N xs k j)))
      go_loopw [5, 6] (fun v i wr => ∃ q : Nat, q ≤ N ∧ i = .int .i64 (q : Nat) ∧ OwnK wr wo.heap.size 29 3 v q (cel3 (fun j => neg (dm (adjL N xs k j))) (fun j => mag (dm (adjL N xs k j))) (fun j => de (adjL N xs k j))) ∧ Below wo.heap.size wo wr) (fun _ i _ => N - (RowKit.intOf i).toNat)
      case atStart => exact ⟨0, Nat.zero_le _, rfl, hol, Below.refl _ _⟩
      case round =>
        clear hol
        obtain ⟨q, hq, rfl, hown, hB⟩ := hrel
        by_cases hlt2 : q < N
        · have hlt2i : (q : Int) < (N : Int) := by omega
          have hBw := (nxt HOW.out.2 hB)
          have c3 := Lib.hid (rwithout_any A N c q k bs ss es wr (by omega) hlt2 hlt (HR.out.below hBw))
          have hdd := db_det (N - 1) (wot q k xs) (by omega) (fun i j => HDB.out _ _)
          have HLEN := Lib.hid (db_len (n := N - 1) (by omega) HLT.out)
          have hl2 : L * (N - 1) + ((T0 + 8) * (N - 1) + 1) ≤ L * (N - 1 + 1) + ((T0 + 8) * (N - 1 + 1) + 1) := by rw [Nat.mul_add, Nat.mul_add]; omega
          have HDD := Lib.hid hdd
          have HLE2 := Lib.hid (show L * (N - 1) + ((T0 + 8) * (N - 1) + 1) ≤ 1000001 from Nat.le_trans hl2 HLEN.out)
          clear hdd hl2 hBw HLEN
          have HKB := Lib.hid (And.intro hown hB)
          clear hown hB
          go_wp2_with fail
          refine c3.out.mono ?_
          rintro e w5 ⟨⟨C, d, rfl, hrc⟩, hb⟩
          clear c3
          have c4 := Lib.hid (rdet_any L T0 HLT.out (N - 1) (by omega) C d _ _ _ (wot q k xs) w5 (fun i j => HX.out _ _) (fun i j => HLO.out _ _) (fun i j => HDB.out _ _) hrc)
          have HB5 := Lib.hid hb
          clear hb hrc
          go_wp2_with fail
          refine c4.out.mono ?_
          rintro e w6 ⟨rfl, hb⟩
          clear c4
          obtain ⟨hown, hB⟩ := HKB.out
          replace hown := (hown.below HB5.out).below hb
          replace hB := nxt (nxt hB HB5.out) hb
          clear hb HB5 HKB
          have HKBS := Lib.hid hB.size
          have HKBL := Lib.hid (show ∀ g, (u5).ownBlock = some g → g ≠ w6.heap.size from fun g hg => Nat.ne_of_lt (hown.lt g hg).2)
          have YX := Bx.new w6 29 #[.bool (neg (dm (detL (N - 1) (wot q k xs)))), .string (mag (dm (detL (N - 1) (wot q k xs)))), .int .i64 (de (detL (N - 1) (wot q k xs)))]
          replace hown := hown.below (b1 w6 (.cells #[.bool (neg (dm (detL (N - 1) (wot q k xs)))), .string (mag (dm (detL (N - 1) (wot q k xs)))), .int .i64 (de (detL (N - 1) (wot q k xs)))] 29))
          replace hB := nxtA hB (.cells #[.bool (neg (dm (detL (N - 1) (wot q k xs)))), .string (mag (dm (detL (N - 1) (wot q k xs)))), .int .i64 (de (detL (N - 1) (wot q k xs)))] 29)
          have HKB := Lib.hid (And.intro hown (And.intro hB YX))
          clear hown hB YX
          go_upto_region 10 with (fail)
          have L6 := Lib.hid (show wo.heap.size ≤ w6.heap.size from HKBS.out)
          have L7 := Lib.hid HKBL.out
          obtain ⟨hown, hB, YX⟩ := HKB.out
          clear HKB
          generalize w6.alloc (.cells #[.bool (neg (dm (detL (N - 1) (wot q k xs)))), .string (mag (dm (detL (N - 1) (wot q k xs)))), .int .i64 (de (detL (N - 1) (wot q k xs)))] 29) = w8 at *
          have hkj : (0 : Int) ≤ (k : Int) + (q : Int) := by omega
          have hk63 : (k : Int) + (q : Int) ≤ 16 := by omega
          by_cases hk2 : (k + q) % 2 = 1
          · have hr2 : (((k : Int) + (q : Int)).tmod 2 == 1) = true := by rw [Int.tmod_eq_emod_of_nonneg hkj]; simp; omega
            have hr3 : ((k : Int) + (q : Int)) % 2 = 1 := by omega
            have hea : adjL N xs k q = -detL (N - 1) (wot q k xs) := by unfold adjL alt; rw [if_pos hk2]
            have HEA := Lib.hid hea
            clear hea
            obtain ⟨q1, q2, q3, q4, q5, q6⟩ := YX.three
            have HKB := Lib.hid (And.intro hown (And.intro hB YX))
            clear hown hB YX
            have cN := Lib.hid (fun W => rdNeg_vn (w := W) HDD.out (by have := HLE2.out; omega))
            go_wp2_with fail
            refine (cN.out _).mono ?_
            rintro e w9 ⟨rfl, hb⟩
            obtain ⟨hown, hB, YX⟩ := HKB.out
            clear HKB cN q1 q2 q3 q4 q5 q6
            have hY := YX.lt
            replace YX := YX.later hb
            replace hown := hown.below hb
            replace hB := nxt hB hb
            clear hb
            obtain ⟨q1, q2, q3, q4, q5, q6⟩ := YX.three
            have HKB := Lib.hid (And.intro hown (And.intro hB YX))
            clear hown hB YX
            go_upto_region 12 with (fail)
            obtain ⟨hown, hB, YX⟩ := HKB.out
            replace hB : Below wo.heap.size wo (((w9.setCell ⟨w6.heap.size, 0, none⟩ (.bool (neg (dm (-detL (N - 1) (wot q k xs)))))).setCell ⟨w6.heap.size, 1, none⟩ (.string (mag (dm (-detL (N - 1) (wot q k xs)))))).setCell ⟨w6.heap.size, 2, none⟩ (.int .i64 (de (-detL (N - 1) (wot q k xs))))) := st3 hB L6.out _ _ _
            replace YX : Bx (((w9.setCell ⟨w6.heap.size, 0, none⟩ (.bool (neg (dm (-detL (N - 1) (wot q k xs)))))).setCell ⟨w6.heap.size, 1, none⟩ (.string (mag (dm (-detL (N - 1) (wot q k xs)))))).setCell ⟨w6.heap.size, 2, none⟩ (.int .i64 (de (-detL (N - 1) (wot q k xs))))) w6.heap.size 29 #[.bool (neg (dm (-detL (N - 1) (wot q k xs)))), .string (mag (dm (-detL (N - 1) (wot q k xs)))), .int .i64 (de (-detL (N - 1) (wot q k xs)))] := YX.set3 _ _ _
            replace hown : OwnK (((w9.setCell ⟨w6.heap.size, 0, none⟩ (.bool (neg (dm (-detL (N - 1) (wot q k xs)))))).setCell ⟨w6.heap.size, 1, none⟩ (.string (mag (dm (-detL (N - 1) (wot q k xs)))))).setCell ⟨w6.heap.size, 2, none⟩ (.int .i64 (de (-detL (N - 1) (wot q k xs))))) wo.heap.size 29 3 u5 q (cel3 (fun j => neg (dm (adjL N xs k j))) (fun j => mag (dm (adjL N xs k j))) (fun j => de (adjL N xs k j))) := hown.off3 L7.out _ _ _
            clear HKB q1 q2 q3 q4 q5 q6
            generalize (((w9.setCell ⟨w6.heap.size, 0, none⟩ (.bool (neg (dm (-detL (N - 1) (wot q k xs)))))).setCell ⟨w6.heap.size, 1, none⟩ (.string (mag (dm (-detL (N - 1) (wot q k xs)))))).setCell ⟨w6.heap.size, 2, none⟩ (.int .i64 (de (-detL (N - 1) (wot q k xs))))) = w10 at *
            obtain ⟨q1, q2, q3, q4, q5, q6⟩ := YX.three
            rw [← HEA.out] at q1 q2 q3
            clear YX q4 q5 q6
            have hO := hown.below (b1 w10 (.cells #[.bool (neg (dm (adjL N xs k q))), .string (mag (dm (adjL N xs k q))), .int .i64 (de (adjL N xs k q))] 29))
            have ZR := Bx.new w10 29 #[.bool (neg (dm (adjL N xs k q))), .string (mag (dm (adjL N xs k q))), .int .i64 (de (adjL N xs k q))]
            have HN := Lib.hid (show ∀ j, j < 1 → ∀ i, i < 3 → (w10.alloc (.cells #[.bool (neg (dm (adjL N xs k q))), .string (mag (dm (adjL N xs k q))), .int .i64 (de (adjL N xs k q))] 29)).cell? ⟨w10.heap.size, 0 + j * 3 + i, none⟩ = ((cel3 (fun j => neg (dm (adjL N xs k (q + j)))) (fun j => mag (dm (adjL N xs k (q + j)))) (fun j => de (adjL N xs k (q + j)))) j)[i]? from fun j hj i hi => by
              have hj' : j = 0 := by omega
              have hi' : i = 0 ∨ i = 1 ∨ i = 2 := by omega
              subst hj'
              rcases hi' with rfl | rfl | rfl <;> simp [ZR.cel, cel3])
            have HO := Lib.hid (And.intro hO (nxtA hB (.cells #[.bool (neg (dm (adjL N xs k q))), .string (mag (dm (adjL N xs k q))), .int .i64 (de (adjL N xs k q))] 29)))
            have HS2 := Lib.hid (show wo.heap.size ≤ (w10.alloc (.cells #[.bool (neg (dm (adjL N xs k q))), .string (mag (dm (adjL N xs k q))), .int .i64 (de (adjL N xs k q))] 29)).heap.size by have := hB.size; simp; omega)
            have HM2 := Lib.hid (show q + 1 ≤ 9223372036854775807 ∧ (q + 1) * 32 ≤ 140737488355328 by omega)
            clear hO ZR hown hB
            go_wp2_with (at_builtin; refine wpList_appendK rfl (.tmp 32) (.tmp 34) _ rfl wo.heap.size 29 _ 3 32 Tryz.underlying38 info_Num rfl (by decide) _ q (cel3 (fun j => neg (dm (adjL N xs k j))) (fun j => mag (dm (adjL N xs k j))) (fun j => de (adjL N xs k j))) rfl HO.out.1 ⟨w10.heap.size, 0, none⟩ 1 1 (cel3 (fun j => neg (dm (adjL N xs k (q + j)))) (fun j => mag (dm (adjL N xs k (q + j)))) (fun j => de (adjL N xs k (q + j)))) (fun _ => rfl) (fun _ => rfl) (cel3_one _ _ _) rfl rfl HN.out HM2.out.1 HM2.out.2 HS2.out ?_; intro v' w17 ho' hb5)
            have ho2 := ho'.congr (f' := (cel3 (fun j => neg (dm (adjL N xs k j))) (fun j => mag (dm (adjL N xs k j))) (fun j => de (adjL N xs k j)))) (fun j hj => by
              split
              · rfl
              · rename_i h
                unfold cel3
                dsimp only
                rw [show q + (j - q) = j by omega])
            exact ⟨⟨q + 1, by omega, by go_num, ho2, belB HO.out.2 hb5 (Nat.le_refl _)⟩, by simp [RowKit.intOf]; omega⟩
          · have hr2 : (((k : Int) + (q : Int)).tmod 2 == 1) = false := by rw [Int.tmod_eq_emod_of_nonneg hkj]; simp; omega
            have hr3 : ((k : Int) + (q : Int)) % 2 = 0 := by omega
            have hea : adjL N xs k q = detL (N - 1) (wot q k xs) := by unfold adjL alt; rw [if_neg hk2]
            have HEA := Lib.hid hea
            clear hea
            obtain ⟨q1, q2, q3, q4, q5, q6⟩ := YX.three
            have HKB := Lib.hid (And.intro hown hB)
            clear hown hB
            go_upto_region 12 with (fail)
            obtain ⟨hown, hB⟩ := HKB.out
            clear HKB
            rw [← HEA.out] at q1 q2 q3
            clear YX q4 q5 q6
            have hO := hown.below (b1 w8 (.cells #[.bool (neg (dm (adjL N xs k q))), .string (mag (dm (adjL N xs k q))), .int .i64 (de (adjL N xs k q))] 29))
            have ZR := Bx.new w8 29 #[.bool (neg (dm (adjL N xs k q))), .string (mag (dm (adjL N xs k q))), .int .i64 (de (adjL N xs k q))]
            have HN := Lib.hid (show ∀ j, j < 1 → ∀ i, i < 3 → (w8.alloc (.cells #[.bool (neg (dm (adjL N xs k q))), .string (mag (dm (adjL N xs k q))), .int .i64 (de (adjL N xs k q))] 29)).cell? ⟨w8.heap.size, 0 + j * 3 + i, none⟩ = ((cel3 (fun j => neg (dm (adjL N xs k (q + j)))) (fun j => mag (dm (adjL N xs k (q + j)))) (fun j => de (adjL N xs k (q + j)))) j)[i]? from fun j hj i hi => by
              have hj' : j = 0 := by omega
              have hi' : i = 0 ∨ i = 1 ∨ i = 2 := by omega
              subst hj'
              rcases hi' with rfl | rfl | rfl <;> simp [ZR.cel, cel3])
            have HO := Lib.hid (And.intro hO (nxtA hB (.cells #[.bool (neg (dm (adjL N xs k q))), .string (mag (dm (adjL N xs k q))), .int .i64 (de (adjL N xs k q))] 29)))
            have HS2 := Lib.hid (show wo.heap.size ≤ (w8.alloc (.cells #[.bool (neg (dm (adjL N xs k q))), .string (mag (dm (adjL N xs k q))), .int .i64 (de (adjL N xs k q))] 29)).heap.size by have := hB.size; simp; omega)
            have HM2 := Lib.hid (show q + 1 ≤ 9223372036854775807 ∧ (q + 1) * 32 ≤ 140737488355328 by omega)
            clear hO ZR hown hB
            go_wp2_with (at_builtin; refine wpList_appendK rfl (.tmp 32) (.tmp 34) _ rfl wo.heap.size 29 _ 3 32 Tryz.underlying38 info_Num rfl (by decide) _ q (cel3 (fun j => neg (dm (adjL N xs k j))) (fun j => mag (dm (adjL N xs k j))) (fun j => de (adjL N xs k j))) rfl HO.out.1 ⟨w8.heap.size, 0, none⟩ 1 1 (cel3 (fun j => neg (dm (adjL N xs k (q + j)))) (fun j => mag (dm (adjL N xs k (q + j)))) (fun j => de (adjL N xs k (q + j)))) (fun _ => rfl) (fun _ => rfl) (cel3_one _ _ _) rfl rfl HN.out HM2.out.1 HM2.out.2 HS2.out ?_; intro v' w17 ho' hb5)
            have ho2 := ho'.congr (f' := (cel3 (fun j => neg (dm (adjL N xs k j))) (fun j => mag (dm (adjL N xs k j))) (fun j => de (adjL N xs k j)))) (fun j hj => by
              split
              · rfl
              · rename_i h
                unfold cel3
                dsimp only
                rw [show q + (j - q) = j by omega])
            exact ⟨⟨q + 1, by omega, by go_num, ho2, belB HO.out.2 hb5 (Nat.le_refl _)⟩, by simp [RowKit.intOf]; omega⟩
        · obtain rfl : q = N := by omega
          have hlt2i : ¬ (q : Int) < (q : Int) := by omega
          obtain ⟨C, d, rfl, hnc, hrd, _, hno⟩ := OwnK.rd (k := 3) (fun _ => rfl) hown
          have hvl := OwnT.lt HOW.out.1
          have hap := hown.apart (u := u3) (fun g hg => (hvl g hg).2) rfl
          have hown5 := HOW.out.1.below hB
          have hown6 := hown5.below (b1 wr (.cells #[.slice C q d] 38))
          have hown6' : OwnT (wr.alloc (.cells #[.slice C q d] 38)) w.heap.size 38 3 u3 k (fun _ => q) (fun i => cel3 (fun j => neg (dm (adjL q xs i j))) (fun j => mag (dm (adjL q xs i j))) (fun j => de (adjL q xs i j))) := hown6
          have hrd6 := hrd.below (cel3_len _ _ _) (b1 wr (.cells #[.slice C q d] 38))
          have Z := (Bx.new wr 38 #[.slice C q d]).cel 0
          have hap6 : ∀ a, C = some a → a.block < (wr.alloc (.cells #[.slice C q d] 38)).heap.size ∧ _ := fun a ha => ⟨Nat.lt_of_lt_of_le (hap a ha).1 (by simp), (hap a ha).2⟩
          have hB7 := nxt HOW.out.2 hB
          have hsz6 : w.heap.size ≤ (wr.alloc (.cells #[.slice C q d] 38)).heap.size := by have := hB7.size; simp; omega
          have h63 : k + 1 ≤ 9223372036854775807 := by omega
          have hby : (k + 1) * 24 ≤ 140737488355328 := by omega
          have HB7 := Lib.hid (nxtA hB7 (.cells #[.slice C q d] 38))
          clear hown hown5 hown6 hrd hap hvl hB hB7 HOW
          go_wp2_with (at_builtin; refine wpList_appendT rfl (.tmp 36) (.tmp 38) _ rfl w.heap.size 38 (.slice none 0 0) 3 24 Tryz.underlying22 info_Nums rfl u3 k (fun _ => q) (fun i => cel3 (fun j => neg (dm (adjL q xs i j))) (fun j => mag (dm (adjL q xs i j))) (fun j => de (adjL q xs i j))) (fun i j => cel3_len _ _ _ j) rfl hown6' ⟨wr.heap.size, 0, none⟩ rfl rfl C d Z hnc hno hrd6 hap6 h63 hby hsz6 ?_; intro v2 w7 ho2 hb7)
          have hB8 := belB HB7.out hb7 (Nat.le_refl _)
          exact ⟨⟨k + 1, by omega, by go_num, ho2, hB8⟩, by simp [RowKit.intOf]; omega⟩
    · obtain rfl : k = N := by omega
      have hlti : ¬ (k : Int) < (k : Int) := by omega
      obtain ⟨C, d, rfl, _, hrd, _⟩ := OwnT.rd hown
      go_wp2
      go_ret
      exact ⟨⟨C, ⟨d, rfl⟩, hrd⟩, hB⟩
end Go.Proofs.YtibbhpgpleeglaaGreatDoor

namespace Go.Proofs.YtibbhpgpleeglaaGreatDoor
open Go Go.RowKit

theorem dNeg_vn {x : Dyadic} {L T : Nat} {w : World} (h : DB L T x) (hLT : L + T ≤ 4000000) (hT : TabAt 0 Lib.deBruijn64tab w) :
    Calls Tryz.prog 17 #[.agg #[.bool (neg (dm x)), .string (mag (dm x)), .int .i64 (de x)]] w fun r w' => r = .returned (.agg #[.bool (neg (dm (-x))), .string (mag (dm (-x))), .int .i64 (de (-x))]) ∧ Below w.heap.size w w' := by
  have h1 := db_form h
  have h2 := db_size h
  have c := dNeg_any (mag (dm x)) (neg (dm x)) (de x) w (by omega) (by omega) (by omega) hT
  rw [ival_mk, dy_dm] at c
  exact c
theorem bit1 {x : Int} (h : 0 ≤ x) (h2 : x ≤ 16) : bits .and .i64 x 1 = x % 2 := by
  have : x = 0 ∨ x = 1 ∨ x = 2 ∨ x = 3 ∨ x = 4 ∨ x = 5 ∨ x = 6 ∨ x = 7 ∨ x = 8 ∨ x = 9 ∨ x = 10 ∨ x = 11 ∨ x = 12 ∨ x = 13 ∨ x = 14 ∨ x = 15 ∨ x = 16 := by omega
  rcases this with rfl | rfl | rfl | rfl | rfl | rfl | rfl | rfl | rfl | rfl | rfl | rfl | rfl | rfl | rfl | rfl | rfl <;> rfl
set_option maxRecDepth 100000 in
set_option maxHeartbeats 2000000 in
theorem madj_x (N : Nat) (L T0 : Nat) (hLT : (L + T0 + 8) * 8 ≤ 1000000) (hn : N ≤ 8) (A : Option Addr) (c : Nat) (bs : Nat → Nat → Bool) (ss : Nat → Nat → ByteArray) (es : Nat → Nat → Int) (xs : Nat → Nat → Dyadic) (w : World) (hx : ∀ i j, ND (bs i j) (ss i j) (es i j) (xs i j)) (hdb : ∀ i j, DB L T0 (xs i j)) (hT : TabAt 0 Lib.deBruijn64tab w) (hdet : ∀ (xs : Nat → Nat → Dyadic) (B : Option Addr) (d : Nat) (bs : Nat → Nat → Bool) (ss : Nat → Nat → ByteArray) (es : Nat → Nat → Int) (W : World), (∀ i j, ND (bs i j) (ss i j) (es i j) (xs i j)) → (∀ i j, DB L T0 (xs i j)) → RdM W B (N - 1) (fun _ => N - 1) bs ss es → TabAt 0 Lib.deBruijn64tab W → Calls Tryz.prog 10 #[.slice B (N - 1) d] W fun r w' => r = .returned (.tuple #[.agg #[.bool (neg (dm (detL (N - 1) xs))), .string (mag (dm (detL (N - 1) xs))), .int .i64 (de (detL (N - 1) xs))], .int .i64 0]) ∧ Below W.heap.size W w') (hr : RdM w A N (fun _ => N) bs ss es) :
    Calls Tryz.prog 11 #[.slice A N c] w fun e w' => (∃ C d, e = .returned (.tuple #[.slice C N d, .int .i64 0]) ∧ RdM w' C N (fun _ => N) (fun i q => neg (dm (adjL N xs i q))) (fun i q => mag (dm (adjL N xs i q))) (fun i q => de (adjL N xs i q))) ∧ Below w.heap.size w w' := by
  have HR := Lib.hid hr
  have HX := Lib.hid hx
  have HDB := Lib.hid hdb
  have HT := Lib.hid hT
  have HDET := Lib.hid hdet
  have HLT := Lib.hid hLT
  clear hr hx hdb hLT hT hdet
  have cc := Lib.hid (fun W h => mcheck_any A N c (fun _ => N) W (by omega) h)
  have HSQ := Lib.hid (show sqB N (fun _ => N) from ⟨hn, fun _ _ => rfl⟩)
  go_enter Tryz.func11, Tryz.ntmps11
  go_wp2_with fail
  refine (cc.out _ HR.out.len).mono ?_
  rintro e w0 ⟨h1, _, hB⟩
  obtain rfl := h1 HSQ.out
  clear h1 cc
  have HB0 := Lib.hid hB
  clear hB
  go_wp2_with fail
  go_loopw [5, 18] (fun v i wr => ∃ k : Nat, k ≤ N ∧ i = .int .i64 (k : Nat) ∧ OwnM wr w0.heap.size v k (fun _ => N) (fun i q => neg (dm (adjL N xs i q))) (fun i q => mag (dm (adjL N xs i q))) (fun i q => de (adjL N xs i q)) ∧ Below w0.heap.size w0 wr) (fun _ i _ => N - (RowKit.intOf i).toNat)
  case atStart => exact ⟨0, Nat.zero_le _, rfl, OwnT.nil_ _ _ _ _ _ _, Below.refl _ _⟩
  case round =>
    obtain ⟨k, hk, rfl, hown, hB⟩ := hrel
    by_cases hlt : k < N
    · have hlti : (k : Int) < (N : Int) := by omega
      have HOW := Lib.hid (And.intro hown hB)
      clear hown hB
      go_wp2_with fail
      obtain ⟨wo, hwo⟩ : ∃ x, x = wr := ⟨_, rfl⟩
      subst hwo
      have hol := OwnK.nil_ wo wo.heap.size 29 3 (cel3 (fun j => neg (dm (adjL N xs k j))) (fun j => mag (dm (adjL N xs k j))) (fun j => de (adjL N xs k j)))
      go_loopw [7, 23] (fun v i wr => ∃ q : Nat, q ≤ N ∧ i = .int .i64 (q : Nat) ∧ OwnK wr wo.heap.size 29 3 v q (cel3 (fun j => neg (dm (adjL N xs k j))) (fun j => mag (dm (adjL N xs k j))) (fun j => de (adjL N xs k j))) ∧ Below wo.heap.size wo wr) (fun _ i _ => N - (RowKit.intOf i).toNat)
      case atStart => exact ⟨0, Nat.zero_le _, rfl, hol, Below.refl _ _⟩
      case round =>
        clear hol
        obtain ⟨q, hq, rfl, hown, hB⟩ := hrel
        by_cases hlt2 : q < N
        · have hlt2i : (q : Int) < (N : Int) := by omega
          have hBw := (nxt HB0.out (nxt HOW.out.2 hB))
          have c3 := Lib.hid (mwithout_any A N c q k bs ss es wr (by omega) hlt2 hlt (HR.out.below hBw))
          have hdd := db_det (N - 1) (wot q k xs) (by omega) (fun i j => HDB.out _ _)
          have HLEN := Lib.hid (db_len (n := N - 1) (by omega) HLT.out)
          have hl2 : L * (N - 1) + ((T0 + 8) * (N - 1) + 1) ≤ L * (N - 1 + 1) + ((T0 + 8) * (N - 1 + 1) + 1) := by rw [Nat.mul_add, Nat.mul_add]; omega
          have HDD := Lib.hid hdd
          have HLE2 := Lib.hid (show L * (N - 1) + ((T0 + 8) * (N - 1) + 1) ≤ 1000001 from Nat.le_trans hl2 HLEN.out)
          clear hdd hl2 hBw HLEN
          have HKB := Lib.hid (And.intro hown hB)
          clear hown hB
          go_wp2_with fail
          refine c3.out.mono ?_
          rintro e w5 ⟨⟨C, d, rfl, hrc⟩, hb⟩
          clear c3
          have c4 := Lib.hid (HDET.out (wot q k xs) C d _ _ _ w5 (fun i j => HX.out _ _) (fun i j => HDB.out _ _) hrc (tab_keep HT.out (nxt (nxt HB0.out (nxt HOW.out.2 HKB.out.2)) hb)))
          have HB5 := Lib.hid hb
          clear hb hrc
          go_wp2_with fail
          refine c4.out.mono ?_
          rintro e w6 ⟨rfl, hb⟩
          clear c4
          obtain ⟨hown, hB⟩ := HKB.out
          replace hown := (hown.below HB5.out).below hb
          replace hB := nxt (nxt hB HB5.out) hb
          clear hb HB5 HKB
          have HKBS := Lib.hid hB.size
          have HKBL := Lib.hid (show ∀ g, (u7).ownBlock = some g → g ≠ w6.heap.size from fun g hg => Nat.ne_of_lt (hown.lt g hg).2)
          have YX := Bx.new w6 29 #[.bool (neg (dm (detL (N - 1) (wot q k xs)))), .string (mag (dm (detL (N - 1) (wot q k xs)))), .int .i64 (de (detL (N - 1) (wot q k xs)))]
          replace hown := hown.below (b1 w6 (.cells #[.bool (neg (dm (detL (N - 1) (wot q k xs)))), .string (mag (dm (detL (N - 1) (wot q k xs)))), .int .i64 (de (detL (N - 1) (wot q k xs)))] 29))
          replace hB := nxtA hB (.cells #[.bool (neg (dm (detL (N - 1) (wot q k xs)))), .string (mag (dm (detL (N - 1) (wot q k xs)))), .int .i64 (de (detL (N - 1) (wot q k xs)))] 29)
          have HKB := Lib.hid (And.intro hown (And.intro hB YX))
          clear hown hB YX
          go_upto_region 13 with (fail)
          have L6 := Lib.hid (show wo.heap.size ≤ w6.heap.size from HKBS.out)
          have L7 := Lib.hid HKBL.out
          obtain ⟨hown, hB, YX⟩ := HKB.out
          clear HKB
          generalize w6.alloc (.cells #[.bool (neg (dm (detL (N - 1) (wot q k xs)))), .string (mag (dm (detL (N - 1) (wot q k xs)))), .int .i64 (de (detL (N - 1) (wot q k xs)))] 29) = w8 at *
          have hkj : (0 : Int) ≤ (k : Int) + (q : Int) := by omega
          have hk63 : (k : Int) + (q : Int) ≤ 16 := by omega
          by_cases hk2 : (k + q) % 2 = 1
          · have hr2 : (bits .and .i64 ((k : Int) + (q : Int)) 1 == 1) = true := by rw [bit1 hkj hk63]; simp; omega
            have hr4 : bits .and .i64 ((k : Int) + (q : Int)) 1 = 1 := by rw [bit1 hkj hk63]; omega
            have hea : adjL N xs k q = -detL (N - 1) (wot q k xs) := by unfold adjL alt; rw [if_pos hk2]
            have HEA := Lib.hid hea
            clear hea
            obtain ⟨q1, q2, q3, q4, q5, q6⟩ := YX.three
            have HKB := Lib.hid (And.intro hown (And.intro hB YX))
            clear hown hB YX
            have cN := Lib.hid (fun W (hT : TabAt 0 Lib.deBruijn64tab W) => dNeg_vn (w := W) HDD.out (by have := HLE2.out; omega) hT)
            go_wp2_with fail
            refine (cN.out _ (tab_keep HT.out (nxt HB0.out (nxt HOW.out.2 HKB.out.2.1)))).mono ?_
            rintro e w9 ⟨rfl, hb⟩
            obtain ⟨hown, hB, YX⟩ := HKB.out
            clear HKB cN q1 q2 q3 q4 q5 q6
            have hY := YX.lt
            replace YX := YX.later hb
            replace hown := hown.below hb
            replace hB := nxt hB hb
            clear hb
            obtain ⟨q1, q2, q3, q4, q5, q6⟩ := YX.three
            have HKB := Lib.hid (And.intro hown (And.intro hB YX))
            clear hown hB YX
            go_upto_region 15 with (fail)
            obtain ⟨hown, hB, YX⟩ := HKB.out
            replace hB : Below wo.heap.size wo (((w9.setCell ⟨w6.heap.size, 0, none⟩ (.bool (neg (dm (-detL (N - 1) (wot q k xs)))))).setCell ⟨w6.heap.size, 1, none⟩ (.string (mag (dm (-detL (N - 1) (wot q k xs)))))).setCell ⟨w6.heap.size, 2, none⟩ (.int .i64 (de (-detL (N - 1) (wot q k xs))))) := st3 hB L6.out _ _ _
            replace YX : Bx (((w9.setCell ⟨w6.heap.size, 0, none⟩ (.bool (neg (dm (-detL (N - 1) (wot q k xs)))))).setCell ⟨w6.heap.size, 1, none⟩ (.string (mag (dm (-detL (N - 1) (wot q k xs)))))).setCell ⟨w6.heap.size, 2, none⟩ (.int .i64 (de (-detL (N - 1) (wot q k xs))))) w6.heap.size 29 #[.bool (neg (dm (-detL (N - 1) (wot q k xs)))), .string (mag (dm (-detL (N - 1) (wot q k xs)))), .int .i64 (de (-detL (N - 1) (wot q k xs)))] := YX.set3 _ _ _
            replace hown : OwnK (((w9.setCell ⟨w6.heap.size, 0, none⟩ (.bool (neg (dm (-detL (N - 1) (wot q k xs)))))).setCell ⟨w6.heap.size, 1, none⟩ (.string (mag (dm (-detL (N - 1) (wot q k xs)))))).setCell ⟨w6.heap.size, 2, none⟩ (.int .i64 (de (-detL (N - 1) (wot q k xs))))) wo.heap.size 29 3 u7 q (cel3 (fun j => neg (dm (adjL N xs k j))) (fun j => mag (dm (adjL N xs k j))) (fun j => de (adjL N xs k j))) := hown.off3 L7.out _ _ _
            clear HKB q1 q2 q3 q4 q5 q6
            generalize (((w9.setCell ⟨w6.heap.size, 0, none⟩ (.bool (neg (dm (-detL (N - 1) (wot q k xs)))))).setCell ⟨w6.heap.size, 1, none⟩ (.string (mag (dm (-detL (N - 1) (wot q k xs)))))).setCell ⟨w6.heap.size, 2, none⟩ (.int .i64 (de (-detL (N - 1) (wot q k xs))))) = w10 at *
            obtain ⟨q1, q2, q3, q4, q5, q6⟩ := YX.three
            rw [← HEA.out] at q1 q2 q3
            clear YX q4 q5 q6
            have hO := hown.below (b1 w10 (.cells #[.bool (neg (dm (adjL N xs k q))), .string (mag (dm (adjL N xs k q))), .int .i64 (de (adjL N xs k q))] 29))
            have ZR := Bx.new w10 29 #[.bool (neg (dm (adjL N xs k q))), .string (mag (dm (adjL N xs k q))), .int .i64 (de (adjL N xs k q))]
            have HN := Lib.hid (show ∀ j, j < 1 → ∀ i, i < 3 → (w10.alloc (.cells #[.bool (neg (dm (adjL N xs k q))), .string (mag (dm (adjL N xs k q))), .int .i64 (de (adjL N xs k q))] 29)).cell? ⟨w10.heap.size, 0 + j * 3 + i, none⟩ = ((cel3 (fun j => neg (dm (adjL N xs k (q + j)))) (fun j => mag (dm (adjL N xs k (q + j)))) (fun j => de (adjL N xs k (q + j)))) j)[i]? from fun j hj i hi => by
              have hj' : j = 0 := by omega
              have hi' : i = 0 ∨ i = 1 ∨ i = 2 := by omega
              subst hj'
              rcases hi' with rfl | rfl | rfl <;> simp [ZR.cel, cel3])
            have HO := Lib.hid (And.intro hO (nxtA hB (.cells #[.bool (neg (dm (adjL N xs k q))), .string (mag (dm (adjL N xs k q))), .int .i64 (de (adjL N xs k q))] 29)))
            have HS2 := Lib.hid (show wo.heap.size ≤ (w10.alloc (.cells #[.bool (neg (dm (adjL N xs k q))), .string (mag (dm (adjL N xs k q))), .int .i64 (de (adjL N xs k q))] 29)).heap.size by have := hB.size; simp; omega)
            have HM2 := Lib.hid (show q + 1 ≤ 9223372036854775807 ∧ (q + 1) * 32 ≤ 140737488355328 by omega)
            clear hO ZR hown hB
            go_wp2_with (at_builtin; refine wpList_appendK rfl (.tmp 41) (.tmp 43) _ rfl wo.heap.size 29 _ 3 32 Tryz.underlying38 info_Num rfl (by decide) _ q (cel3 (fun j => neg (dm (adjL N xs k j))) (fun j => mag (dm (adjL N xs k j))) (fun j => de (adjL N xs k j))) rfl HO.out.1 ⟨w10.heap.size, 0, none⟩ 1 1 (cel3 (fun j => neg (dm (adjL N xs k (q + j)))) (fun j => mag (dm (adjL N xs k (q + j)))) (fun j => de (adjL N xs k (q + j)))) (fun _ => rfl) (fun _ => rfl) (cel3_one _ _ _) rfl rfl HN.out HM2.out.1 HM2.out.2 HS2.out ?_; intro v' w17 ho' hb5)
            have ho2 := ho'.congr (f' := (cel3 (fun j => neg (dm (adjL N xs k j))) (fun j => mag (dm (adjL N xs k j))) (fun j => de (adjL N xs k j)))) (fun j hj => by
              split
              · rfl
              · rename_i h
                unfold cel3
                dsimp only
                rw [show q + (j - q) = j by omega])
            exact ⟨⟨q + 1, by omega, by go_num, ho2, belB HO.out.2 hb5 (Nat.le_refl _)⟩, by simp [RowKit.intOf]; omega⟩
          · have hr2 : (bits .and .i64 ((k : Int) + (q : Int)) 1 == 1) = false := by rw [bit1 hkj hk63]; simp; omega
            have hr4 : bits .and .i64 ((k : Int) + (q : Int)) 1 = 0 := by rw [bit1 hkj hk63]; omega
            have hea : adjL N xs k q = detL (N - 1) (wot q k xs) := by unfold adjL alt; rw [if_neg hk2]
            have HEA := Lib.hid hea
            clear hea
            obtain ⟨q1, q2, q3, q4, q5, q6⟩ := YX.three
            have HKB := Lib.hid (And.intro hown hB)
            clear hown hB
            go_upto_region 15 with (fail)
            obtain ⟨hown, hB⟩ := HKB.out
            clear HKB
            rw [← HEA.out] at q1 q2 q3
            clear YX q4 q5 q6
            have hO := hown.below (b1 w8 (.cells #[.bool (neg (dm (adjL N xs k q))), .string (mag (dm (adjL N xs k q))), .int .i64 (de (adjL N xs k q))] 29))
            have ZR := Bx.new w8 29 #[.bool (neg (dm (adjL N xs k q))), .string (mag (dm (adjL N xs k q))), .int .i64 (de (adjL N xs k q))]
            have HN := Lib.hid (show ∀ j, j < 1 → ∀ i, i < 3 → (w8.alloc (.cells #[.bool (neg (dm (adjL N xs k q))), .string (mag (dm (adjL N xs k q))), .int .i64 (de (adjL N xs k q))] 29)).cell? ⟨w8.heap.size, 0 + j * 3 + i, none⟩ = ((cel3 (fun j => neg (dm (adjL N xs k (q + j)))) (fun j => mag (dm (adjL N xs k (q + j)))) (fun j => de (adjL N xs k (q + j)))) j)[i]? from fun j hj i hi => by
              have hj' : j = 0 := by omega
              have hi' : i = 0 ∨ i = 1 ∨ i = 2 := by omega
              subst hj'
              rcases hi' with rfl | rfl | rfl <;> simp [ZR.cel, cel3])
            have HO := Lib.hid (And.intro hO (nxtA hB (.cells #[.bool (neg (dm (adjL N xs k q))), .string (mag (dm (adjL N xs k q))), .int .i64 (de (adjL N xs k q))] 29)))
            have HS2 := Lib.hid (show wo.heap.size ≤ (w8.alloc (.cells #[.bool (neg (dm (adjL N xs k q))), .string (mag (dm (adjL N xs k q))), .int .i64 (de (adjL N xs k q))] 29)).heap.size by have := hB.size; simp; omega)
            have HM2 := Lib.hid (show q + 1 ≤ 9223372036854775807 ∧ (q + 1) * 32 ≤ 140737488355328 by omega)
            clear hO ZR hown hB
            go_wp2_with (at_builtin; refine wpList_appendK rfl (.tmp 41) (.tmp 43) _ rfl wo.heap.size 29 _ 3 32 Tryz.underlying38 info_Num rfl (by decide) _ q (cel3 (fun j => neg (dm (adjL N xs k j))) (fun j => mag (dm (adjL N xs k j))) (fun j => de (adjL N xs k j))) rfl HO.out.1 ⟨w8.heap.size, 0, none⟩ 1 1 (cel3 (fun j => neg (dm (adjL N xs k (q + j)))) (fun j => mag (dm (adjL N xs k (q + j)))) (fun j => de (adjL N xs k (q + j)))) (fun _ => rfl) (fun _ => rfl) (cel3_one _ _ _) rfl rfl HN.out HM2.out.1 HM2.out.2 HS2.out ?_; intro v' w17 ho' hb5)
            have ho2 := ho'.congr (f' := (cel3 (fun j => neg (dm (adjL N xs k j))) (fun j => mag (dm (adjL N xs k j))) (fun j => de (adjL N xs k j)))) (fun j hj => by
              split
              · rfl
              · rename_i h
                unfold cel3
                dsimp only
                rw [show q + (j - q) = j by omega])
            exact ⟨⟨q + 1, by omega, by go_num, ho2, belB HO.out.2 hb5 (Nat.le_refl _)⟩, by simp [RowKit.intOf]; omega⟩
        · obtain rfl : q = N := by omega
          have hlt2i : ¬ (q : Int) < (q : Int) := by omega
          obtain ⟨C, d, rfl, hnc, hrd, _, hno⟩ := OwnK.rd (k := 3) (fun _ => rfl) hown
          have hvl := OwnT.lt HOW.out.1
          have hap := hown.apart (u := u5) (fun g hg => (hvl g hg).2) rfl
          have hown5 := HOW.out.1.below hB
          have hown6 := hown5.below (b1 wr (.cells #[.slice C q d] 38))
          have hown6' : OwnT (wr.alloc (.cells #[.slice C q d] 38)) w0.heap.size 38 3 u5 k (fun _ => q) (fun i => cel3 (fun j => neg (dm (adjL q xs i j))) (fun j => mag (dm (adjL q xs i j))) (fun j => de (adjL q xs i j))) := hown6
          have hrd6 := hrd.below (cel3_len _ _ _) (b1 wr (.cells #[.slice C q d] 38))
          have Z := (Bx.new wr 38 #[.slice C q d]).cel 0
          have hap6 : ∀ a, C = some a → a.block < (wr.alloc (.cells #[.slice C q d] 38)).heap.size ∧ _ := fun a ha => ⟨Nat.lt_of_lt_of_le (hap a ha).1 (by simp), (hap a ha).2⟩
          have hB7 := nxt HOW.out.2 hB
          have hsz6 : w0.heap.size ≤ (wr.alloc (.cells #[.slice C q d] 38)).heap.size := by have := hB7.size; simp; omega
          have h63 : k + 1 ≤ 9223372036854775807 := by omega
          have hby : (k + 1) * 24 ≤ 140737488355328 := by omega
          have HB7 := Lib.hid (nxtA hB7 (.cells #[.slice C q d] 38))
          clear hown hown5 hown6 hrd hap hvl hB hB7 HOW
          go_wp2_with (at_builtin; refine wpList_appendT rfl (.tmp 46) (.tmp 48) _ rfl w0.heap.size 38 (.slice none 0 0) 3 24 Tryz.underlying22 info_Nums rfl u5 k (fun _ => q) (fun i => cel3 (fun j => neg (dm (adjL q xs i j))) (fun j => mag (dm (adjL q xs i j))) (fun j => de (adjL q xs i j))) (fun i j => cel3_len _ _ _ j) rfl hown6' ⟨wr.heap.size, 0, none⟩ rfl rfl C d Z hnc hno hrd6 hap6 h63 hby hsz6 ?_; intro v2 w7 ho2 hb7)
          have hB8 := belB HB7.out hb7 (Nat.le_refl _)
          exact ⟨⟨k + 1, by omega, by go_num, ho2, hB8⟩, by simp [RowKit.intOf]; omega⟩
    · obtain rfl : k = N := by omega
      have hlti : ¬ (k : Int) < (k : Int) := by omega
      obtain ⟨C, d, rfl, _, hrd, _⟩ := OwnT.rd hown
      go_wp2
      go_ret2
      exact ⟨⟨C, ⟨d, rfl⟩, hrd⟩, (nxt HB0.out hB)⟩
end Go.Proofs.YtibbhpgpleeglaaGreatDoor

