/- The walks and plain laws beneath the statements. -/
import Derived.Test.YtibbhpgpleeglaaGreatDoorPA40
import Derived.Test.YtibbhpgpleeglaaGreatDoorPA30
namespace Go.Proofs.YtibbhpgpleeglaaGreatDoor
open Go Go.RowKit

set_option maxRecDepth 100000 in
set_option maxHeartbeats 4000000 in
theorem rapply_any (A B : Option Addr) (n c cc : Nat) (bs : Nat → Nat → Bool) (cs : Nat → Bool) (ss : Nat → Nat → ByteArray) (ts : Nat → ByteArray) (es : Nat → Nat → Int) (fs : Nat → Int) (xs : Nat → Nat → Dyadic) (ys : Nat → Dyadic) (L T0 : Nat) (w : World) (hn : n ≤ 8) (hx : ∀ i j, ND (bs i j) (ss i j) (es i j) (xs i j)) (hy : ∀ j, ND (cs j) (ts j) (fs j) (ys j)) (hlo : ∀ i j, -1073741824 ≤ es i j + fs j) (hdx : ∀ i j, DB L T0 (xs i j)) (hdy : ∀ j, DB L T0 (ys j)) (hLT : L + T0 ≤ 1500000) (hr : RdM w A n (fun _ => n) bs ss es) (hr' : RdN w B n cs ts fs) :
    Calls Tryz.prog 21 #[.slice A n c, .slice B n cc] w fun e w' => (∃ C d, e = .returned (.slice C n d) ∧ RdN w' C n (fun i => neg (dm (appM n xs ys i))) (fun i => mag (dm (appM n xs ys i))) (fun i => de (appM n xs ys i))) ∧ Below w.heap.size w w' := by
  have HR := Lib.hid hr
  have HR' := Lib.hid hr'
  have HX := Lib.hid hx
  have HY := Lib.hid hy
  have HLO := Lib.hid hlo
  have HDX := Lib.hid hdx
  have HDY := Lib.hid hdy
  clear hr hr' hx hy hdx hdy hlo
  go_enter Tryz.func21, Tryz.ntmps21
  go_wp2_with fail
  have hon := OwnK.nil_ w w.heap.size 29 3 (cel3 (fun i => neg (dm (appM n xs ys i))) (fun i => mag (dm (appM n xs ys i))) (fun i => de (appM n xs ys i)))
  go_loopw [5, 6] (fun v i wr => ∃ k : Nat, k ≤ n ∧ i = .int .i64 (k : Nat) ∧ OwnK wr w.heap.size 29 3 v k (cel3 (fun i => neg (dm (appM n xs ys i))) (fun i => mag (dm (appM n xs ys i))) (fun i => de (appM n xs ys i))) ∧ Below w.heap.size w wr) (fun _ i _ => n - (RowKit.intOf i).toNat)
  case atStart => exact ⟨0, Nat.zero_le _, rfl, hon, Below.refl _ _⟩
  case round =>
    obtain ⟨k, hk, rfl, hown, hB⟩ := hrel
    by_cases hlt : k < n
    · obtain ⟨b, off, rfl, hc⟩ := (HR.out.below hB) (by omega)
      obtain ⟨Ai, ci, _, hAi, g1, hi1⟩ := hc k hlt
      obtain ⟨bi, offi, rfl, hci⟩ := hi1.num (show 0 < n by omega)
      obtain ⟨b2, off2, rfl, hc2⟩ := (HR'.out.below hB) (by omega)
      have hki : (k : Int) < (n : Int) := by omega
      have hkj : (0 : Int) ≤ (k : Int) := by omega
      have HCI := Lib.hid hci
      have HC2 := Lib.hid hc2
      have HOW := Lib.hid (And.intro hown hB)
      obtain ⟨wo, hwo⟩ : ∃ x, x = wr := ⟨_, rfl⟩
      subst hwo
      have Z := Bx.new wo 29 #[.bool false, .string ⟨#[]⟩, .int .i64 0]
      have hb1 := b1 wo (.cells #[.bool false, .string ⟨#[]⟩, .int .i64 0] 29)
      clear hc hi1 hown hB hon hci hc2
      go_wp2_with fail
      go_loopw [8] (fun i wr => ∃ q : Nat, q ≤ n ∧ i = .int .i64 (q : Nat) ∧ Bx wr wo.heap.size 29 #[.bool (neg (dm (sumD (fun j => xs k j * ys j) q))), .string (mag (dm (sumD (fun j => xs k j * ys j) q))), .int .i64 (de (sumD (fun j => xs k j * ys j) q))] ∧ Below wo.heap.size wo wr) (fun i _ => n - (RowKit.intOf i).toNat)
      case atStart => exact ⟨0, Nat.zero_le _, rfl, Z, hb1⟩
      case round =>
        clear Z hb1
        obtain ⟨q, hq, rfl, Z, hB2⟩ := hrel
        by_cases hlt2 : q < n
        · have hqi : (q : Int) < (n : Int) := by omega
          have hqj : (0 : Int) ≤ (q : Int) := by omega
          replace g1 := cell_later hB2 g1
          have g2 := cell_later hB2 (HCI.out q hlt2).1
          have g3 := cell_later hB2 (HCI.out q hlt2).2.1
          have g4 := cell_later hB2 (HCI.out q hlt2).2.2
          have g5 := cell_later hB2 (HC2.out q hlt2).1
          have g6 := cell_later hB2 (HC2.out q hlt2).2.1
          have g7 := cell_later hB2 (HC2.out q hlt2).2.2
          have HD1 := Lib.hid (show DB (L + L) (T0 + T0 + 8) (sumD (fun j => xs k j * ys j) q) from db_up (db_sum (fun j => db_mul (HDX.out k j) (HDY.out j)) q) (Nat.le_refl _) (by omega))
          have HD2 := Lib.hid (show DB (L + L) (T0 + T0 + 8) (xs k q * ys q) from db_up (db_mul (HDX.out k q) (HDY.out q)) (Nat.le_refl _) (by omega))
          go_upto_region 9 with (fail)
          refine wp_region_k [22, 23, 24, 25, 26, 27, 28, 29, 30, 31, 32, 33, 34, 35] [.eq (.agg #[.bool (neg (dm (sumD (fun j => xs k j * ys j) q))), .string (mag (dm (sumD (fun j => xs k j * ys j) q))), .int .i64 (de (sumD (fun j => xs k j * ys j) q))]), .eq (.slice (some ⟨b, off, none⟩) n c), .eq (.int .i64 (k : Nat)), .eq (.pointer (some ⟨b, off + k, none⟩)), .eq (.slice (some ⟨bi, offi, none⟩) n ci), .eq (.int .i64 (q : Nat)), .eq (.pointer (some ⟨bi, offi + q * 3, none⟩)), .eq (.agg #[.bool (bs k q), .string (ss k q), .int .i64 (es k q)]), .eq (.slice (some ⟨b2, off2, none⟩) n cc), .eq (.int .i64 (q : Nat)), .eq (.pointer (some ⟨b2, off2 + q * 3, none⟩)), .eq (.agg #[.bool (cs q), .string (ts q), .int .i64 (fs q)]), .eq (.agg #[.bool (neg (dm (xs k q * ys q))), .string (mag (dm (xs k q * ys q))), .int .i64 (de (xs k q * ys q))]), .eq (.agg #[.bool (neg (dm (sumD (fun j => xs k j * ys j) q + xs k q * ys q))), .string (mag (dm (sumD (fun j => xs k j * ys j) q + xs k q * ys q))), .int .i64 (de (sumD (fun j => xs k j * ys j) q + xs k q * ys q))])] 41 (by kernel_rfl) (by exact fun _ _ _ _ _ h => h) (by kernel_rfl) (by rfl) ?hop ?htail
          case hop =>
            intro A hA
            have hN : A.tmps.size = 41 := by rw [hA]; rfl
            have q7 : A.tmps.getD 7 undef = .pointer (some ⟨wo.heap.size, 0, none⟩) := by rw [hA]; rfl
            have q0 : A.tmps.getD 0 undef = .slice (some ⟨b, off, none⟩) n c := by rw [hA]; rfl
            have q6 : A.tmps.getD 6 undef = .int .i64 (k : Nat) := by rw [hA]; rfl
            have q8 : A.tmps.getD 8 undef = .int .i64 (q : Nat) := by rw [hA]; rfl
            have q1 : A.tmps.getD 1 undef = .slice (some ⟨b2, off2, none⟩) n cc := by rw [hA]; rfl
            clear hA
            refine ⟨?_, ?_, ?_, ?_, ?_, ?_, ?_, ?_, ?_, ?_, ?_, ?_, ?_, ?_, trivial⟩
            · refine kok hN fun u W ev ec ef E B hG hf => ?_
              exact k_val _ rfl rfl hG (by simp [go_sem, B 7 rfl rfl q7, (Z.later hG).cel]) rfl
            · refine kok hN fun u W ev ec ef E B hG hf => ?_
              exact k_val _ rfl rfl hG (by simp [go_sem, B 0 rfl rfl q0]) rfl
            · refine kok hN fun u W ev ec ef E B hG hf => ?_
              exact k_val _ rfl rfl hG (by simp [go_sem, B 6 rfl rfl q6]) rfl
            · refine kok hN fun u W ev ec ef E B hG hf => ?_
              exact k_val _ rfl rfl hG (by simp [go_sem, E 23 1 rfl rfl (hf 1 rfl), E 24 2 rfl rfl (hf 2 rfl), hki, hkj]) rfl
            · refine kok hN fun u W ev ec ef E B hG hf => ?_
              exact k_val _ rfl rfl hG (by simp [go_sem, E 25 3 rfl rfl (hf 3 rfl), cell_later hG g1]) rfl
            · refine kok hN fun u W ev ec ef E B hG hf => ?_
              exact k_val _ rfl rfl hG (by simp [go_sem, B 8 rfl rfl q8]) rfl
            · refine kok hN fun u W ev ec ef E B hG hf => ?_
              exact k_val _ rfl rfl hG (by simp [go_sem, E 26 4 rfl rfl (hf 4 rfl), E 27 5 rfl rfl (hf 5 rfl), hqi, hqj]) rfl
            · refine kok hN fun u W ev ec ef E B hG hf => ?_
              exact k_val _ rfl rfl hG (by simp [go_sem, E 28 6 rfl rfl (hf 6 rfl), cell_later hG g2, cell_later hG g3, cell_later hG g4]) rfl
            · refine kok hN fun u W ev ec ef E B hG hf => ?_
              exact k_val _ rfl rfl hG (by simp [go_sem, B 1 rfl rfl q1]) rfl
            · refine kok hN fun u W ev ec ef E B hG hf => ?_
              exact k_val _ rfl rfl hG (by simp [go_sem, B 8 rfl rfl q8]) rfl
            · refine kok hN fun u W ev ec ef E B hG hf => ?_
              exact k_val _ rfl rfl hG (by simp [go_sem, E 30 8 rfl rfl (hf 8 rfl), E 31 9 rfl rfl (hf 9 rfl), hqi, hqj]) rfl
            · refine kok hN fun u W ev ec ef E B hG hf => ?_
              exact k_val _ rfl rfl hG (by simp [go_sem, E 32 10 rfl rfl (hf 10 rfl), cell_later hG g5, cell_later hG g6, cell_later hG g7]) rfl
            · refine kok hN fun u W ev ec ef E B hG hf => ?_
              exact k_cl rfl rfl (by simp [go_sem, ef, E 29 7 rfl rfl (hf 7 rfl), E 33 11 rfl rfl (hf 11 rfl)]) (rdTimes_any _ (HX.out k q) (HY.out q) (HLO.out k q)) hG (fun _ _ => rfl)
            · refine kok hN fun u W ev ec ef E B hG hf => ?_
              exact k_cl rfl rfl (by simp [go_sem, ef, E 22 0 rfl rfl (hf 0 rfl), E 34 12 rfl rfl (hf 12 rfl)]) (rdPlus_any _ (nd_db HD1.out (by omega)) (nd_db HD2.out (by omega)) HD1.out HD2.out (by omega)) hG (fun _ _ => rfl)
          case htail =>
          intro u w5 hG hP _
          have f35 : u 13 = .agg #[.bool (neg (dm (sumD (fun j => xs k j * ys j) q + xs k q * ys q))), .string (mag (dm (sumD (fun j => xs k j * ys j) q + xs k q * ys q))), .int .i64 (de (sumD (fun j => xs k j * ys j) q + xs k q * ys q))] := hP 13 (by decide)
          simp only [putAll, Act.put, List.setIfInBounds_toArray, List.set_cons_zero, List.set_cons_succ, List.length_cons, List.length_nil, Nat.reduceAdd, List.drop_succ_cons, List.drop_zero, f35]
          have Z2 := Z.later hG
          have hB3 := nxt hB2 hG
          clear hP hG Z hB2 f35 g1 g2 g3 g4 g5 g6 g7
          obtain ⟨p1, p2, p3, p4, p5, p6⟩ := Z2.three
          have HZ := Lib.hid (And.intro Z2 hB3)
          clear Z2 hB3
          go_wp2
          exact ⟨⟨q + 1, by omega, by go_num, HZ.out.1.set3 _ _ _, st3 HZ.out.2 (Nat.le_refl _) _ _ _⟩, by simp [RowKit.intOf]; omega⟩
        · obtain rfl : n = q := by omega
          have hqi : ¬ (n : Int) < (n : Int) := by omega
          have Z' : Bx wr wo.heap.size 29 #[.bool (neg (dm (appM n xs ys k))), .string (mag (dm (appM n xs ys k))), .int .i64 (de (appM n xs ys k))] := Z
          obtain ⟨p1, p2, p3, _, _, _⟩ := Z'.three
          obtain ⟨hown, hB⟩ := HOW.out
          have hO := (hown.below hB2).below (b1 wr (.cells #[.bool (neg (dm (appM n xs ys k))), .string (mag (dm (appM n xs ys k))), .int .i64 (de (appM n xs ys k))] 29))
          have ZR := Bx.new wr 29 #[.bool (neg (dm (appM n xs ys k))), .string (mag (dm (appM n xs ys k))), .int .i64 (de (appM n xs ys k))]
          have HN := Lib.hid (show ∀ j, j < 1 → ∀ i, i < 3 → (wr.alloc (.cells #[.bool (neg (dm (appM n xs ys k))), .string (mag (dm (appM n xs ys k))), .int .i64 (de (appM n xs ys k))] 29)).cell? ⟨wr.heap.size, 0 + j * 3 + i, none⟩ = ((cel3 (fun j => neg (dm (appM n xs ys (k + j)))) (fun j => mag (dm (appM n xs ys (k + j)))) (fun j => de (appM n xs ys (k + j)))) j)[i]? from fun j hj i hi => by
            have hj' : j = 0 := by omega
            have hi' : i = 0 ∨ i = 1 ∨ i = 2 := by omega
            subst hj'
            rcases hi' with rfl | rfl | rfl <;> simp [ZR.cel, cel3])
          have HO := Lib.hid (And.intro hO (nxtA (nxt hB hB2) (.cells #[.bool (neg (dm (appM n xs ys k))), .string (mag (dm (appM n xs ys k))), .int .i64 (de (appM n xs ys k))] 29)))
          have HS2 := Lib.hid (show w.heap.size ≤ (wr.alloc (.cells #[.bool (neg (dm (appM n xs ys k))), .string (mag (dm (appM n xs ys k))), .int .i64 (de (appM n xs ys k))] 29)).heap.size by have := (nxt hB hB2).size; simp; omega)
          have HM2 := Lib.hid (show k + 1 ≤ 9223372036854775807 ∧ (k + 1) * 32 ≤ 140737488355328 by omega)
          clear hO ZR hown hB hB2 Z Z' g1
          go_wp2_with (at_builtin; refine wpList_appendK rfl (.tmp 36) (.tmp 38) _ rfl w.heap.size 29 _ 3 32 Tryz.underlying38 info_Num rfl (by decide) _ k (cel3 (fun i => neg (dm (appM n xs ys i))) (fun i => mag (dm (appM n xs ys i))) (fun i => de (appM n xs ys i))) rfl HO.out.1 ⟨wr.heap.size, 0, none⟩ 1 1 (cel3 (fun j => neg (dm (appM n xs ys (k + j)))) (fun j => mag (dm (appM n xs ys (k + j)))) (fun j => de (appM n xs ys (k + j)))) (fun _ => rfl) (fun _ => rfl) (cel3_one _ _ _) rfl rfl HN.out HM2.out.1 HM2.out.2 HS2.out ?_; intro v' w7 ho' hb5)
          have ho2 := ho'.congr (f' := (cel3 (fun i => neg (dm (appM n xs ys i))) (fun i => mag (dm (appM n xs ys i))) (fun i => de (appM n xs ys i)))) (fun j hj => by
            split
            · rfl
            · rename_i h
              unfold cel3
              dsimp only
              rw [show k + (j - k) = j by omega])
          exact ⟨⟨k + 1, by omega, by go_num, ho2, belB HO.out.2 hb5 (Nat.le_refl _)⟩, by simp [RowKit.intOf]; omega⟩
    · obtain rfl : k = n := by omega
      have hlti : ¬ (k : Int) < (k : Int) := by omega
      obtain ⟨C, d, rfl, hkd, hrd, _, hno⟩ := OwnK.rd (k := 3) (fun _ => rfl) hown
      go_wp2
      go_ret
      exact ⟨⟨C, ⟨d, rfl⟩, hrd.num⟩, hB⟩
end Go.Proofs.YtibbhpgpleeglaaGreatDoor

namespace Go.Proofs.YtibbhpgpleeglaaGreatDoor
open Go Go.RowKit

set_option maxRecDepth 100000 in
set_option maxHeartbeats 4000000 in
theorem rmul_any (A B : Option Addr) (N c cc : Nat) (bs cs : Nat → Nat → Bool) (ss ts : Nat → Nat → ByteArray) (es fs : Nat → Nat → Int) (xs ys : Nat → Nat → Dyadic) (L T0 : Nat) (w : World) (hn : N ≤ 8) (hx : ∀ i j, ND (bs i j) (ss i j) (es i j) (xs i j)) (hy : ∀ i j, ND (cs i j) (ts i j) (fs i j) (ys i j)) (hlo : ∀ i j i' j', -1073741824 ≤ es i j + fs i' j') (hdx : ∀ i j, DB L T0 (xs i j)) (hdy : ∀ i j, DB L T0 (ys i j)) (hLT : L + T0 ≤ 1500000) (hr : RdM w A N (fun _ => N) bs ss es) (hr' : RdM w B N (fun _ => N) cs ts fs) :
    Calls Tryz.prog 22 #[.slice A N c, .slice B N cc] w fun e w' => (∃ C d, e = .returned (.slice C N d) ∧ RdM w' C N (fun _ => N) (fun i q => neg (dm (mulM N xs ys i q))) (fun i q => mag (dm (mulM N xs ys i q))) (fun i q => de (mulM N xs ys i q))) ∧ Below w.heap.size w w' := by
  have HR := Lib.hid hr
  have HR' := Lib.hid hr'
  have HX := Lib.hid hx
  have HY := Lib.hid hy
  have HLO := Lib.hid hlo
  have HDX := Lib.hid hdx
  have HDY := Lib.hid hdy
  clear hr hr' hx hy hdx hdy hlo
  go_enter Tryz.func22, Tryz.ntmps22
  go_wp2_with fail
  go_loopw [5, 6] (fun v i wr => ∃ k : Nat, k ≤ N ∧ i = .int .i64 (k : Nat) ∧ OwnM wr w.heap.size v k (fun _ => N) (fun i q => neg (dm (mulM N xs ys i q))) (fun i q => mag (dm (mulM N xs ys i q))) (fun i q => de (mulM N xs ys i q)) ∧ Below w.heap.size w wr) (fun _ i _ => N - (RowKit.intOf i).toNat)
  case atStart => exact ⟨0, Nat.zero_le _, rfl, OwnT.nil_ _ _ _ _ _ _, Below.refl _ _⟩
  case round =>
    obtain ⟨k, hk, rfl, hown, hB⟩ := hrel
    by_cases hlt : k < N
    · have hlti : (k : Int) < (N : Int) := by omega
      have HOW := Lib.hid (And.intro hown hB)
      clear hown hB
      go_wp2_with fail
      obtain ⟨wo, hwo⟩ : ∃ x, x = wr := ⟨_, rfl⟩
      subst hwo
      have hol := OwnK.nil_ wo wo.heap.size 29 3 (cel3 (fun j => neg (dm (mulM N xs ys k j))) (fun j => mag (dm (mulM N xs ys k j))) (fun j => de (mulM N xs ys k j)))
      go_loopw [7, 8] (fun v i wr => ∃ q : Nat, q ≤ N ∧ i = .int .i64 (q : Nat) ∧ OwnK wr wo.heap.size 29 3 v q (cel3 (fun j => neg (dm (mulM N xs ys k j))) (fun j => mag (dm (mulM N xs ys k j))) (fun j => de (mulM N xs ys k j))) ∧ Below wo.heap.size wo wr) (fun _ i _ => N - (RowKit.intOf i).toNat)
      case atStart => exact ⟨0, Nat.zero_le _, rfl, hol, Below.refl _ _⟩
      case round =>
        clear hol
        obtain ⟨q, hq, rfl, hown, hB⟩ := hrel
        by_cases hlt2 : q < N
        · have hlt2i : (q : Int) < (N : Int) := by omega
          have HKB := Lib.hid (And.intro hown hB)
          clear hown hB
          obtain ⟨wq, hwq⟩ : ∃ x, x = wr := ⟨_, rfl⟩
          subst hwq
          have Z : Bx (wq.alloc (.cells #[.bool false, .string ⟨#[]⟩, .int .i64 0] 29)) wq.heap.size 29 #[.bool (neg (dm ((sumD (fun j => xs k j * ys j q) 0)))), .string (mag (dm ((sumD (fun j => xs k j * ys j q) 0)))), .int .i64 (de ((sumD (fun j => xs k j * ys j q) 0)))] := Bx.new wq 29 #[.bool false, .string ⟨#[]⟩, .int .i64 0]
          have hb1 := b1 wq (.cells #[.bool false, .string ⟨#[]⟩, .int .i64 0] 29)
          obtain ⟨b, off, rfl, hc⟩ := (HR.out.below (nxt HOW.out.2 HKB.out.2)) (by omega)
          obtain ⟨Ai, ci, _, hAi, g1, hi1⟩ := hc k hlt
          obtain ⟨bi, offi, rfl, hci⟩ := hi1.num (show 0 < N by omega)
          obtain ⟨b2, off2, rfl, hc2⟩ := (HR'.out.below (nxt HOW.out.2 HKB.out.2)) (by omega)
          replace g1 : wq.cell? ⟨b, off + k, none⟩ = some (.slice (some ⟨bi, offi, none⟩) N ci) := g1
          have hki : (k : Int) < (N : Int) := by omega
          have hkj : (0 : Int) ≤ (k : Int) := by omega
          have hqi : (q : Int) < (N : Int) := by omega
          have hqj : (0 : Int) ≤ (q : Int) := by omega
          have HCI := Lib.hid hci
          have HC2 := Lib.hid hc2
          clear hc hi1 hci hc2
          go_wp2_with fail
          go_loopw [10] (fun i wr => ∃ p : Nat, p ≤ N ∧ i = .int .i64 (p : Nat) ∧ Bx wr wq.heap.size 29 #[.bool (neg (dm ((sumD (fun j => xs k j * ys j q) p)))), .string (mag (dm ((sumD (fun j => xs k j * ys j q) p)))), .int .i64 (de ((sumD (fun j => xs k j * ys j q) p)))] ∧ Below wq.heap.size wq wr) (fun i _ => N - (RowKit.intOf i).toNat)
          case atStart => exact ⟨0, Nat.zero_le _, rfl, Z, hb1⟩
          case round =>
            clear Z hb1
            obtain ⟨p, hp, rfl, Z, hB2⟩ := hrel
            by_cases hlt3 : p < N
            · have hpi : (p : Int) < (N : Int) := by omega
              have hpj : (0 : Int) ≤ (p : Int) := by omega
              obtain ⟨Aj, cj, _, hAj, g5, hj1⟩ := HC2.out p hlt3
              obtain ⟨bj, offj, rfl, hcj⟩ := hj1.num (show 0 < N by omega)
              obtain ⟨g6, g7, g8⟩ := hcj q hlt2
              replace g1 := cell_later hB2 g1
              have g2 := cell_later hB2 (HCI.out p hlt3).1
              have g3 := cell_later hB2 (HCI.out p hlt3).2.1
              have g4 := cell_later hB2 (HCI.out p hlt3).2.2
              replace g5 : wr.cell? ⟨b2, off2 + p, none⟩ = some (.slice (some ⟨bj, offj, none⟩) N cj) := cell_later hB2 g5
              replace g6 := cell_later hB2 g6
              replace g7 := cell_later hB2 g7
              replace g8 := cell_later hB2 g8
              clear hj1 hcj
              have HD1 := Lib.hid (show DB (L + L) (T0 + T0 + 8) (sumD (fun j => xs k j * ys j q) p) from db_up (db_sum (fun j => db_mul (HDX.out k j) (HDY.out j q)) p) (Nat.le_refl _) (by omega))
              have HD2 := Lib.hid (show DB (L + L) (T0 + T0 + 8) (xs k p * ys p q) from db_up (db_mul (HDX.out k p) (HDY.out p q)) (Nat.le_refl _) (by omega))
              go_upto_region 13 with (fail)
              refine wp_region_k [30, 31, 32, 33, 34, 35, 36, 37, 38, 39, 40, 41, 42, 43, 44, 45, 46] [.eq (.agg #[.bool (neg (dm ((sumD (fun j => xs k j * ys j q) p)))), .string (mag (dm ((sumD (fun j => xs k j * ys j q) p)))), .int .i64 (de ((sumD (fun j => xs k j * ys j q) p)))]), .eq (.slice (some ⟨b, off, none⟩) N c), .eq (.int .i64 (k : Nat)), .eq (.pointer (some ⟨b, off + k, none⟩)), .eq (.slice (some ⟨bi, offi, none⟩) N ci), .eq (.int .i64 (p : Nat)), .eq (.pointer (some ⟨bi, offi + p * 3, none⟩)), .eq (.agg #[.bool (bs k p), .string (ss k p), .int .i64 (es k p)]), .eq (.slice (some ⟨b2, off2, none⟩) N cc), .eq (.int .i64 (p : Nat)), .eq (.pointer (some ⟨b2, off2 + p, none⟩)), .eq (.slice (some ⟨bj, offj, none⟩) N cj), .eq (.int .i64 (q : Nat)), .eq (.pointer (some ⟨bj, offj + q * 3, none⟩)), .eq (.agg #[.bool (cs p q), .string (ts p q), .int .i64 (fs p q)]), .eq (.agg #[.bool (neg (dm ((xs k p * ys p q)))), .string (mag (dm ((xs k p * ys p q)))), .int .i64 (de ((xs k p * ys p q)))]), .eq (.agg #[.bool (neg (dm ((sumD (fun j => xs k j * ys j q) p) + (xs k p * ys p q)))), .string (mag (dm ((sumD (fun j => xs k j * ys j q) p) + (xs k p * ys p q)))), .int .i64 (de ((sumD (fun j => xs k j * ys j q) p) + (xs k p * ys p q)))])] 56 (by kernel_rfl) (by exact fun _ _ _ _ _ h => h) (by kernel_rfl) (by rfl) ?hop ?htail
              case hop =>
                intro A hA
                have hN : A.tmps.size = 56 := by rw [hA]; rfl
                have q9 : A.tmps.getD 9 undef = .pointer (some ⟨wq.heap.size, 0, none⟩) := by rw [hA]; rfl
                have q0 : A.tmps.getD 0 undef = .slice (some ⟨b, off, none⟩) N c := by rw [hA]; rfl
                have q6 : A.tmps.getD 6 undef = .int .i64 (k : Nat) := by rw [hA]; rfl
                have q10 : A.tmps.getD 10 undef = .int .i64 (p : Nat) := by rw [hA]; rfl
                have q1 : A.tmps.getD 1 undef = .slice (some ⟨b2, off2, none⟩) N cc := by rw [hA]; rfl
                have q8 : A.tmps.getD 8 undef = .int .i64 (q : Nat) := by rw [hA]; rfl
                clear hA
                refine ⟨?_, ?_, ?_, ?_, ?_, ?_, ?_, ?_, ?_, ?_, ?_, ?_, ?_, ?_, ?_, ?_, ?_, trivial⟩
                · refine kok hN fun u W ev ec ef E B hG hf => ?_
                  exact k_val _ rfl rfl hG (by simp [go_sem, B 9 rfl rfl q9, (Z.later hG).cel]) rfl
                · refine kok hN fun u W ev ec ef E B hG hf => ?_
                  exact k_val _ rfl rfl hG (by simp [go_sem, B 0 rfl rfl q0]) rfl
                · refine kok hN fun u W ev ec ef E B hG hf => ?_
                  exact k_val _ rfl rfl hG (by simp [go_sem, B 6 rfl rfl q6]) rfl
                · refine kok hN fun u W ev ec ef E B hG hf => ?_
                  exact k_val _ rfl rfl hG (by simp [go_sem, E 31 1 rfl rfl (hf 1 rfl), E 32 2 rfl rfl (hf 2 rfl), hki, hkj]) rfl
                · refine kok hN fun u W ev ec ef E B hG hf => ?_
                  exact k_val _ rfl rfl hG (by simp [go_sem, E 33 3 rfl rfl (hf 3 rfl), cell_later hG g1]) rfl
                · refine kok hN fun u W ev ec ef E B hG hf => ?_
                  exact k_val _ rfl rfl hG (by simp [go_sem, B 10 rfl rfl q10]) rfl
                · refine kok hN fun u W ev ec ef E B hG hf => ?_
                  exact k_val _ rfl rfl hG (by simp [go_sem, E 34 4 rfl rfl (hf 4 rfl), E 35 5 rfl rfl (hf 5 rfl), hpi, hpj]) rfl
                · refine kok hN fun u W ev ec ef E B hG hf => ?_
                  exact k_val _ rfl rfl hG (by simp [go_sem, E 36 6 rfl rfl (hf 6 rfl), cell_later hG g2, cell_later hG g3, cell_later hG g4]) rfl
                · refine kok hN fun u W ev ec ef E B hG hf => ?_
                  exact k_val _ rfl rfl hG (by simp [go_sem, B 1 rfl rfl q1]) rfl
                · refine kok hN fun u W ev ec ef E B hG hf => ?_
                  exact k_val _ rfl rfl hG (by simp [go_sem, B 10 rfl rfl q10]) rfl
                · refine kok hN fun u W ev ec ef E B hG hf => ?_
                  exact k_val _ rfl rfl hG (by simp [go_sem, E 38 8 rfl rfl (hf 8 rfl), E 39 9 rfl rfl (hf 9 rfl), hpi, hpj]) rfl
                · refine kok hN fun u W ev ec ef E B hG hf => ?_
                  exact k_val _ rfl rfl hG (by simp [go_sem, E 40 10 rfl rfl (hf 10 rfl), cell_later hG g5]) rfl
                · refine kok hN fun u W ev ec ef E B hG hf => ?_
                  exact k_val _ rfl rfl hG (by simp [go_sem, B 8 rfl rfl q8]) rfl
                · refine kok hN fun u W ev ec ef E B hG hf => ?_
                  exact k_val _ rfl rfl hG (by simp [go_sem, E 41 11 rfl rfl (hf 11 rfl), E 42 12 rfl rfl (hf 12 rfl), hqi, hqj]) rfl
                · refine kok hN fun u W ev ec ef E B hG hf => ?_
                  exact k_val _ rfl rfl hG (by simp [go_sem, E 43 13 rfl rfl (hf 13 rfl), cell_later hG g6, cell_later hG g7, cell_later hG g8]) rfl
                · refine kok hN fun u W ev ec ef E B hG hf => ?_
                  exact k_cl rfl rfl (by simp [go_sem, ef, E 37 7 rfl rfl (hf 7 rfl), E 44 14 rfl rfl (hf 14 rfl)]) (rdTimes_any _ (HX.out k p) (HY.out p q) (HLO.out k p p q)) hG (fun _ _ => rfl)
                · refine kok hN fun u W ev ec ef E B hG hf => ?_
                  exact k_cl rfl rfl (by simp [go_sem, ef, E 30 0 rfl rfl (hf 0 rfl), E 45 15 rfl rfl (hf 15 rfl)]) (rdPlus_any _ (nd_db HD1.out (by omega)) (nd_db HD2.out (by omega)) HD1.out HD2.out (by omega)) hG (fun _ _ => rfl)
              case htail =>
              intro u w5 hG hP _
              have f46 : u 16 = .agg #[.bool (neg (dm ((sumD (fun j => xs k j * ys j q) p) + (xs k p * ys p q)))), .string (mag (dm ((sumD (fun j => xs k j * ys j q) p) + (xs k p * ys p q)))), .int .i64 (de ((sumD (fun j => xs k j * ys j q) p) + (xs k p * ys p q)))] := hP 16 (by decide)
              simp only [putAll, Act.put, List.setIfInBounds_toArray, List.set_cons_zero, List.set_cons_succ, List.length_cons, List.length_nil, Nat.reduceAdd, List.drop_succ_cons, List.drop_zero, f46]
              have Z2 := Z.later hG
              have hB3 := nxt hB2 hG
              clear hP hG Z hB2 f46 g1 g2 g3 g4 g5 g6 g7 g8
              obtain ⟨p1, p2, p3, p4, p5, p6⟩ := Z2.three
              have HZ := Lib.hid (And.intro Z2 hB3)
              clear Z2 hB3
              go_wp2
              exact ⟨⟨p + 1, by omega, by go_num, HZ.out.1.set3 _ _ _, st3 HZ.out.2 (Nat.le_refl _) _ _ _⟩, by simp [RowKit.intOf]; omega⟩
            · obtain rfl : N = p := by omega
              have hpi : ¬ (N : Int) < (N : Int) := by omega
              have Z' : Bx wr wq.heap.size 29 #[.bool (neg (dm (mulM N xs ys k q))), .string (mag (dm (mulM N xs ys k q))), .int .i64 (de (mulM N xs ys k q))] := Z
              obtain ⟨p1, p2, p3, _, _, _⟩ := Z'.three
              obtain ⟨hown, hB⟩ := HKB.out
              replace hown := hown.below hB2
              replace hB := nxt hB hB2
              clear Z Z' hB2 g1 HKB
              have hO := hown.below (b1 wr (.cells #[.bool (neg (dm (mulM N xs ys k q))), .string (mag (dm (mulM N xs ys k q))), .int .i64 (de (mulM N xs ys k q))] 29))
              have ZR := Bx.new wr 29 #[.bool (neg (dm (mulM N xs ys k q))), .string (mag (dm (mulM N xs ys k q))), .int .i64 (de (mulM N xs ys k q))]
              have HN := Lib.hid (show ∀ j, j < 1 → ∀ i, i < 3 → (wr.alloc (.cells #[.bool (neg (dm (mulM N xs ys k q))), .string (mag (dm (mulM N xs ys k q))), .int .i64 (de (mulM N xs ys k q))] 29)).cell? ⟨wr.heap.size, 0 + j * 3 + i, none⟩ = ((cel3 (fun j => neg (dm (mulM N xs ys k (q + j)))) (fun j => mag (dm (mulM N xs ys k (q + j)))) (fun j => de (mulM N xs ys k (q + j)))) j)[i]? from fun j hj i hi => by
                have hj' : j = 0 := by omega
                have hi' : i = 0 ∨ i = 1 ∨ i = 2 := by omega
                subst hj'
                rcases hi' with rfl | rfl | rfl <;> simp [ZR.cel, cel3])
              have HO := Lib.hid (And.intro hO (nxtA hB (.cells #[.bool (neg (dm (mulM N xs ys k q))), .string (mag (dm (mulM N xs ys k q))), .int .i64 (de (mulM N xs ys k q))] 29)))
              have HS2 := Lib.hid (show wo.heap.size ≤ (wr.alloc (.cells #[.bool (neg (dm (mulM N xs ys k q))), .string (mag (dm (mulM N xs ys k q))), .int .i64 (de (mulM N xs ys k q))] 29)).heap.size by have := hB.size; simp; omega)
              have HM2 := Lib.hid (show q + 1 ≤ 9223372036854775807 ∧ (q + 1) * 32 ≤ 140737488355328 by omega)
              clear hO ZR hown hB
              go_wp2_with (at_builtin; refine wpList_appendK rfl (.tmp 47) (.tmp 49) _ rfl wo.heap.size 29 _ 3 32 Tryz.underlying38 info_Num rfl (by decide) _ q (cel3 (fun j => neg (dm (mulM N xs ys k j))) (fun j => mag (dm (mulM N xs ys k j))) (fun j => de (mulM N xs ys k j))) rfl HO.out.1 ⟨wr.heap.size, 0, none⟩ 1 1 (cel3 (fun j => neg (dm (mulM N xs ys k (q + j)))) (fun j => mag (dm (mulM N xs ys k (q + j)))) (fun j => de (mulM N xs ys k (q + j)))) (fun _ => rfl) (fun _ => rfl) (cel3_one _ _ _) rfl rfl HN.out HM2.out.1 HM2.out.2 HS2.out ?_; intro v' w17 ho' hb5)
              have ho2 := ho'.congr (f' := (cel3 (fun j => neg (dm (mulM N xs ys k j))) (fun j => mag (dm (mulM N xs ys k j))) (fun j => de (mulM N xs ys k j)))) (fun j hj => by
                split
                · rfl
                · rename_i h
                  unfold cel3
                  dsimp only
                  rw [show q + (j - q) = j by omega])
              exact ⟨⟨q + 1, by omega, by go_num, ho2, belB HO.out.2 hb5 (Nat.le_refl _)⟩, by simp [RowKit.intOf]; omega⟩
        · obtain rfl : q = N := by omega
          have hlt2i : ¬ (q : Int) < (q : Int) := by omega
          obtain ⟨C, d, rfl, hnc, hrd, _, hno⟩ := OwnK.rd (k := 3) (fun _ => rfl) hown
          have hvl := OwnT.lt HOW.out.1
          have hap := hown.apart (u := u5) (fun g hg => (hvl g hg).2) rfl
          have hown5 := HOW.out.1.below hB
          have hown6 := hown5.below (b1 wr (.cells #[.slice C q d] 38))
          have hown6' : OwnT (wr.alloc (.cells #[.slice C q d] 38)) w.heap.size 38 3 u5 k (fun _ => q) (fun i => cel3 (fun j => neg (dm (mulM q xs ys i j))) (fun j => mag (dm (mulM q xs ys i j))) (fun j => de (mulM q xs ys i j))) := hown6
          have hrd6 := hrd.below (cel3_len _ _ _) (b1 wr (.cells #[.slice C q d] 38))
          have Z := (Bx.new wr 38 #[.slice C q d]).cel 0
          have hap6 : ∀ a, C = some a → a.block < (wr.alloc (.cells #[.slice C q d] 38)).heap.size ∧ _ := fun a ha => ⟨Nat.lt_of_lt_of_le (hap a ha).1 (by simp), (hap a ha).2⟩
          have hB7 := nxt HOW.out.2 hB
          have hsz6 : w.heap.size ≤ (wr.alloc (.cells #[.slice C q d] 38)).heap.size := by have := hB7.size; simp; omega
          have h63 : k + 1 ≤ 9223372036854775807 := by omega
          have hby : (k + 1) * 24 ≤ 140737488355328 := by omega
          have HB7 := Lib.hid (nxtA hB7 (.cells #[.slice C q d] 38))
          clear hown hown5 hown6 hrd hap hvl hB hB7 HOW
          go_wp2_with (at_builtin; refine wpList_appendT rfl (.tmp 51) (.tmp 53) _ rfl w.heap.size 38 (.slice none 0 0) 3 24 Tryz.underlying22 info_Nums rfl u5 k (fun _ => q) (fun i => cel3 (fun j => neg (dm (mulM q xs ys i j))) (fun j => mag (dm (mulM q xs ys i j))) (fun j => de (mulM q xs ys i j))) (fun i j => cel3_len _ _ _ j) rfl hown6' ⟨wr.heap.size, 0, none⟩ rfl rfl C d Z hnc hno hrd6 hap6 h63 hby hsz6 ?_; intro v2 w7 ho2 hb7)
          have hB8 := belB HB7.out hb7 (Nat.le_refl _)
          exact ⟨⟨k + 1, by omega, by go_num, ho2, hB8⟩, by simp [RowKit.intOf]; omega⟩
    · obtain rfl : k = N := by omega
      have hlti : ¬ (k : Int) < (k : Int) := by omega
      obtain ⟨C, d, rfl, _, hrd, _⟩ := OwnT.rd hown
      go_wp2
      go_ret
      exact ⟨⟨C, ⟨d, rfl⟩, hrd⟩, hB⟩
end Go.Proofs.YtibbhpgpleeglaaGreatDoor

