/- The walks and plain laws beneath the statements. -/
import Derived.Test.YtibbhpgpleeglaaGreatDoorPA23
namespace Go.Proofs.YtibbhpgpleeglaaGreatDoor
open Go.RowKit

theorem rdN2B {w : World} {g : Nat} {b c : Bool} {s t : ByteArray} {e f : Int} (h : Bx w g 29 #[.bool b, .string s, .int .i64 e, .bool c, .string t, .int .i64 f]) : RdN w (some ⟨g, 0, none⟩) 2 (fun j => if j = 0 then b else c) (fun j => if j = 0 then s else t) (fun j => if j = 0 then e else f) := fun _ =>
  ⟨g, 0, rfl, fun j hj => by
    have : j = 0 ∨ j = 1 := by omega
    rcases this with rfl | rfl
    · exact ⟨h.cel 0, h.cel 1, h.cel 2⟩
    · exact ⟨h.cel 3, h.cel 4, h.cel 5⟩⟩

set_option maxRecDepth 100000 in
set_option maxHeartbeats 1000000 in
theorem dMul_any (A : Option Addr) (n c : Nat) (bs : Nat → Bool) (ss : Nat → ByteArray) (es : Nat → Int) (xs : Nat → Dyadic) (L0 T0 : Nat) (w : World) (hn : n ≤ 1000000) (hnd : ∀ j, ND (bs j) (ss j) (es j) (xs j)) (hdb : ∀ j, DB L0 T0 (xs j)) (hLT : L0 * n + T0 * n ≤ 3000000) (hr : RdN w A n bs ss es) (hT : TabAt 0 Lib.deBruijn64tab w) :
    Calls Tryz.prog 24 #[.slice A n c] w fun r w' => r = .returned (.agg #[.bool (neg (dm (prodD xs n))), .string (mag (dm (prodD xs n))), .int .i64 (de (prodD xs n))]) ∧ Below w.heap.size w w' := by
  have HT := Lib.hid hT
  have HN := Lib.hid hnd
  have HS := Lib.hid (fun k (hk : k ≤ n) => nd_db (db_prod hdb k) (by
    have h1 : L0 * k ≤ L0 * n := Nat.mul_le_mul_left _ hk
    have h2 : T0 * k ≤ T0 * n := Nat.mul_le_mul_left _ hk
    omega))
  have cO := Lib.hid (fun W h => dOf_any 1 W (by decide) (by decide) h)
  rw [dy_one] at cO
  clear hT hnd hdb hLT
  go_enter Tryz.func24, Tryz.ntmps24
  have X1 := Bx.new w 29 #[.bool false, .string ⟨#[]⟩, .int .i64 0]
  have hB := b1 w (.cells #[.bool false, .string ⟨#[]⟩, .int .i64 0] 29)
  go_wp2_with fail
  generalize w.alloc (.cells #[.bool false, .string ⟨#[]⟩, .int .i64 0] 29) = w0 at *
  refine (cO.out _ (tab_keep HT.out hB)).mono ?_
  rintro e w1 ⟨rfl, hb⟩
  have l0 := X1.lt
  have hb0 := hb.size
  replace X1 := X1.later hb
  replace hB := nxt hB hb
  clear hb
  have X2 := Bx.new w1 29 #[.bool (neg (dm (1))), .string (mag (dm (1))), .int .i64 (de (1))]
  replace X1 := X1.alloc (.cells #[.bool (neg (dm (1))), .string (mag (dm (1))), .int .i64 (de (1))] 29)
  replace hB := nxtA hB (.cells #[.bool (neg (dm (1))), .string (mag (dm (1))), .int .i64 (de (1))] 29)
  go_wp2_with fail
  generalize w1.alloc (.cells #[.bool (neg (dm (1))), .string (mag (dm (1))), .int .i64 (de (1))] 29) = w2 at *
  have l3 : w.heap.size < w1.heap.size := Nat.lt_of_lt_of_le l0 hb0
  generalize w1.heap.size = g3 at *
  have hg3 : w.heap.size ≠ g3 := Nat.ne_of_lt l3
  have hg3' : w.heap.size ≤ g3 := Nat.le_of_lt l3
  have HG3 := Lib.hid (And.intro hg3 hg3')
  clear hg3 hg3' l3 l0 hb0
  go_loopw [9] (fun i wr => ∃ k : Nat, k ≤ n ∧ i = .int .i64 (k : Nat) ∧ Bx wr w.heap.size 29 #[.bool false, .string ⟨#[]⟩, .int .i64 0] ∧ Bx wr g3 29 #[.bool (neg (dm (prodD xs k))), .string (mag (dm (prodD xs k))), .int .i64 (de (prodD xs k))] ∧ Below w.heap.size w wr) (fun i _ => n - (intOf i).toNat)
  case atStart => exact ⟨0, Nat.zero_le _, rfl, X1, X2, hB⟩
  case round =>
    obtain ⟨k, hk, rfl, Y1, Y2, hB2⟩ := hrel
    by_cases hlt : k < n
    · obtain ⟨b, off, rfl, hc⟩ := hr (by omega)
      obtain ⟨c1, c2, c3⟩ := hc k hlt
      have g1 := cell_later hB2 c1
      have g2 := cell_later hB2 c2
      have g4 := cell_later hB2 c3
      clear hc hr c1 c2 c3 X1 X2 hB
      have np := HS.out k hk
      have nk := HN.out k
      have p1 := np.size
      have p2 := np.lo
      have p3 := np.hi
      have p4 := nk.size
      have p5 := nk.lo
      have p6 := nk.hi
      obtain ⟨S1, hS1⟩ : ∃ S1, S1 = prodD xs (k + 1) := ⟨_, rfl⟩
      obtain ⟨M1, hM1⟩ : ∃ M1, M1 = dm (prodD xs k) * ival (bs k) (sval (ss k)) := ⟨_, rfl⟩
      obtain ⟨E1, hE1⟩ : ∃ E1, E1 = de (prodD xs k) + es k := ⟨_, rfl⟩
      have e1 : dy M1 E1 = S1 := by
        rw [hM1, hE1, ← dy_mul, dy_dm, nk.val, hS1]; rfl
      have hw : IntKind.i64.wrap (de (prodD xs k) + es k) = E1 := by rw [IntWalk.i64_in _ (by omega), hE1]
      have cI := Lib.hid (fun W g (h : Bx W g 27 #[.bool (neg (dm (prodD xs k))), .string (mag (dm (prodD xs k))), .bool (bs k), .string (ss k)]) => iMul2 (W := W) (ival_mk _) rfl (by omega) (by omega) h)
      rw [← hM1] at cI
      have bM : bsz M1 ≤ 2097152 := by
        rw [hM1]
        rw [mag_size] at p1
        exact Nat.le_trans (bsz_mul_le p1 (Nat.le_trans (bsz_ival _ _) p4)) (by decide)
      have cM := Lib.hid (fun W h => dMake_any (mag M1) (neg M1) E1 W (by rw [mag_size]; omega) (by omega) (by omega) h)
      rw [ival_mk, e1] at cM
      have H1 := Lib.hid hS1
      have HW := Lib.hid hw
      clear np nk p1 p2 p3 p4 p5 p6 hS1 hM1 hE1 e1 bM hw
      have Z3 := Bx.new wr 29 #[.bool (bs k), .string (ss k), .int .i64 (es k)]
      have Z1 := Y1.alloc (.cells #[.bool (bs k), .string (ss k), .int .i64 (es k)] 29)
      have Z2 := Y2.alloc (.cells #[.bool (bs k), .string (ss k), .int .i64 (es k)] 29)
      have hB3 := nxtA hB2 (.cells #[.bool (bs k), .string (ss k), .int .i64 (es k)] 29)
      clear Y1 Y2 hB2
      go_upto_region 5 with (fail)
      generalize wr.alloc (.cells #[.bool (bs k), .string (ss k), .int .i64 (es k)] 29) = w4 at *
      generalize wr.heap.size = g5 at *
      have hw := HW.out
      refine wp_region_k [13, 14, 15, 16, 17, 18, 19, 20, 21, 22, 23, 24] [.eq (.pointer (some ⟨g3, 0, none⟩)), .eq (.agg #[.bool (neg (dm (prodD xs k))), .string (mag (dm (prodD xs k)))]), .eq (.pointer (some ⟨g5, 0, none⟩)), .eq (.agg #[.bool (bs k), .string (ss k)]), .sli w4.heap.size 27 2 #[.bool (neg (dm (prodD xs k))), .string (mag (dm (prodD xs k))), .bool (bs k), .string (ss k)], .eq (.agg #[.bool (neg M1), .string (mag M1)]), .eq (.pointer (some ⟨g3, 2, none⟩)), .eq (.int .i64 (de (prodD xs k))), .eq (.pointer (some ⟨g5, 2, none⟩)), .eq (.int .i64 (es k)), .eq (.int .i64 (E1)), .eq (.agg #[.bool (neg (dm (S1))), .string (mag (dm (S1))), .int .i64 (de (S1))])] 27 (by kernel_rfl) (by exact fun _ _ _ _ _ h => h) (by kernel_rfl) (by rfl) ?hop ?htail
      case hop =>
        intro A hA
        have hN : A.tmps.size = 27 := by rw [hA]; rfl
        have q3 : A.tmps.getD 3 undef = .pointer (some ⟨g3, 0, none⟩) := by rw [hA]; rfl
        have q5 : A.tmps.getD 5 undef = .pointer (some ⟨g5, 0, none⟩) := by rw [hA]; rfl
        clear hA
        refine ⟨?_, ?_, ?_, ?_, ?_, ?_, ?_, ?_, ?_, ?_, ?_, ?_, trivial⟩
        · refine kok hN fun u W ev ec ef E B hG hf => ?_
          exact k_val _ rfl rfl hG (by simp [go_sem, B 3 rfl rfl q3]) rfl
        · refine kok hN fun u W ev ec ef E B hG hf => ?_
          exact k_val _ rfl rfl hG (by simp [go_sem, E 13 0 rfl rfl (hf 0 rfl), (Z2.later hG).cel]) rfl
        · refine kok hN fun u W ev ec ef E B hG hf => ?_
          exact k_val _ rfl rfl hG (by simp [go_sem, B 5 rfl rfl q5]) rfl
        · refine kok hN fun u W ev ec ef E B hG hf => ?_
          exact k_val _ rfl rfl hG (by simp [go_sem, E 15 2 rfl rfl (hf 2 rfl), (Z3.later hG).cel]) rfl
        · refine kok hN fun u W ev ec ef E B hG hf => ?_
          exact k_new _ _ rfl (by simp [go_sem, E 14 1 rfl rfl (hf 1 rfl), E 16 3 rfl rfl (hf 3 rfl)]) (nxtA hG _) ⟨_, rfl, below_le hG, Bx.new _ _ _⟩ rfl
        · refine kok hN fun u W ev ec ef E B hG hf => ?_
          obtain ⟨g17, f17, hb17, hx17⟩ := hf 4 rfl
          exact k_cl rfl rfl (by simp [go_sem, ef, E 17 4 rfl rfl f17]) (cI.out _ _ hx17) hG (fun _ _ => rfl)
        · refine kok hN fun u W ev ec ef E B hG hf => ?_
          exact k_val _ rfl rfl hG (by simp [go_sem, B 3 rfl rfl q3]) rfl
        · refine kok hN fun u W ev ec ef E B hG hf => ?_
          exact k_val _ rfl rfl hG (by simp [go_sem, E 19 6 rfl rfl (hf 6 rfl), (Z2.later hG).cel]) rfl
        · refine kok hN fun u W ev ec ef E B hG hf => ?_
          exact k_val _ rfl rfl hG (by simp [go_sem, B 5 rfl rfl q5]) rfl
        · refine kok hN fun u W ev ec ef E B hG hf => ?_
          exact k_val _ rfl rfl hG (by simp [go_sem, E 21 8 rfl rfl (hf 8 rfl), (Z3.later hG).cel]) rfl
        · refine kok hN fun u W ev ec ef E B hG hf => ?_
          exact k_val _ rfl rfl hG (by simp [go_sem, E 20 7 rfl rfl (hf 7 rfl), E 22 9 rfl rfl (hf 9 rfl), hw]) rfl
        · refine kok hN fun u W ev ec ef E B hG hf => ?_
          exact k_cl rfl rfl (by simp [go_sem, ef, E 18 5 rfl rfl (hf 5 rfl), E 23 10 rfl rfl (hf 10 rfl)]) (cM.out W (tab_keep HT.out (nxt hB3 hG))) hG (fun _ _ => rfl)
      case htail =>
        intro u w7 hG hP hD
        have f24 : u 11 = .agg #[.bool (neg (dm (S1))), .string (mag (dm (S1))), .int .i64 (de (S1))] := hP 11 (by decide)
        simp only [putAll, Act.put, List.setIfInBounds_toArray, List.set_cons_zero, List.set_cons_succ, List.length_cons, List.length_nil, Nat.reduceAdd, List.drop_succ_cons, List.drop_zero, f24]
        replace hB3 := nxt hB3 hG
        replace Z1 := Z1.later hG
        replace Z2 := Z2.later hG
        have HZ := Lib.hid (And.intro Z1 (And.intro Z2 hB3))
        obtain ⟨q1, q2, q5, q3, q4, q6⟩ := Z2.three
        clear hP hD hG f24 Z1 Z2 Z3 hB3 hw
        go_wp2
        obtain ⟨Z1, Z2, hB3⟩ := HZ.out
        exact ⟨⟨k + 1, hlt, by go_num, Bx.far3 Z1 HG3.out.1 _ _ _, by rw [← H1.out]; exact Z2.set3 _ _ _, st3 hB3 HG3.out.2 _ _ _⟩, by simp [intOf]; omega⟩
    · obtain rfl : k = n := by omega
      obtain ⟨p1, p2, p5, p3, p4, p6⟩ := Y1.three
      obtain ⟨q1, q2, q5, _, _, _⟩ := Y2.three
      have HY := Lib.hid Y1
      clear Y1 Y2 X1 X2 hB
      go_wp2_with fail
      exact bodyPost_ret (v := .agg #[.bool (neg (dm (prodD xs k))), .string (mag (dm (prodD xs k))), .int .i64 (de (prodD xs k))]) (by simp [results, Tryz.results24, go_sem, (HY.out.set3 _ _ _).cel]) rfl ⟨rfl, st3 hB2 (Nat.le_refl _) _ _ _⟩

end Go.Proofs.YtibbhpgpleeglaaGreatDoor

