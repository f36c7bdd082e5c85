/- The walks and plain laws beneath the statements. -/
import Derived.Test.YtkgogbmeehiloaaGreatDoorPK10
import Derived.Test.YtkgogbmeehiloaaGreatDoorPK11
import Derived.Test.YtkgogbmeehiloaaGreatDoorPK14
import Derived.Lib.OthersKept
import Derived.WalkMore
namespace Go.Proofs.YtkgogbmeehiloaaGreatDoor
open Go.RowKit Go.Lib

/-- The number that the first digits are. -/
def pv (s : ByteArray) (p : Nat) : Nat := dval (s.data.toList.take p)
theorem pv_zero (s : ByteArray) : pv s 0 = 0 := rfl
theorem pv_succ (s : ByteArray) {p : Nat} (h : p < s.size) : pv s (p + 1) = 10 * pv s p + (byt s p - 48) := by
  have h' : p < s.data.toList.length := by simpa using h
  unfold pv byt
  rw [List.take_succ_eq_append_getElem h', dval_snoc, List.getD, List.getElem?_eq_getElem h']
  rfl
theorem pv_all (s : ByteArray) : pv s s.size = dval s.data.toList := by
  unfold pv
  rw [List.take_of_length_le (by simp)]
/-- All are digits. -/
def digs (s : ByteArray) : Prop := ∀ j, j < s.size → 48 ≤ byt s j ∧ byt s j ≤ 57
theorem pv_lt {s : ByteArray} (h : digs s) : ∀ {p : Nat}, p ≤ s.size → pv s p < 10 ^ p
  | 0, _ => by rw [pv_zero]; decide
  | p + 1, hp => by
    have h1 := pv_lt h (p := p) (by omega)
    have h2 := h p (by omega)
    rw [pv_succ s (by omega), Nat.pow_succ]; omega
theorem nstr_le10 {x n : Nat} (h : x < 10 ^ n) : (nstr x).size ≤ n := by
  rw [nstr_size]
  refine nd_le_of_lt (k := 8) (by decide) (Nat.lt_of_lt_of_le h ?_)
  exact Nat.pow_le_pow_left (by decide) n

theorem iter_lt {w : World} {k p : Nat} {s : ByteArray} (h : w.heap[k]? = some (.stringIter s p)) : k < w.heap.size := (Array.getElem?_eq_some_iff.1 h).1

set_option maxRecDepth 100000 in
set_option maxHeartbeats 2000000 in
theorem value_any (s : ByteArray) (w : World) (hs : s.size ≤ 65536) (hd : digs s) :
    Calls Tryz.prog 36 #[.string s] w fun e w' => e = .returned (.string (nstr (dval s.data.toList))) ∧ Below w.heap.size w w' := by
  have HD := Lib.hid hd
  have HPL := Lib.hid (fun (p : Nat) (h : p ≤ s.size) => pv_lt hd h)
  have HALL := Lib.hid (pv_all s)
  clear hd
  go_enter Tryz.func36, Tryz.ntmps36
  go_wp2
  go_step3
  go_wp2
  go_step3
  go_wp2
  go_loopw [3, 4, 5] (fun mg n m wr => ∃ p V N T : Nat, mg = .string (nstr V) ∧ n = .int .u64 (N : Nat) ∧ m = .int .u64 (T : Nat) ∧ p ≤ s.size ∧ Hid (V * T + N = pv s p) ∧ N < T ∧ T < 1000000000000000000 ∧ Hid (p = s.size → T = 1) ∧ wr.heap[w.heap.size]? = some (.stringIter s p) ∧ Below w.heap.size w wr) (fun _ _ _ wr => s.size - wr.iterPos w.heap.size)
  case atStart => exact ⟨0, 0, 0, 1, rfl, rfl, rfl, Nat.zero_le _, Lib.hid rfl, by decide, by decide, Lib.hid (fun _ => rfl), World.iter_heap w s 0, below_iter w s 0⟩
  case round =>
    obtain ⟨p, V, N, T, rfl, rfl, rfl, hp, hV, hN, hT, hE, hit, hB⟩ := hrel
    by_cases hlt : p < s.size
    · obtain ⟨hd1, hd2⟩ := HD.out p hlt
      have hnx : ∀ ty, (Instr.next (.pointer (some ⟨w.heap.size, 0, none⟩)) true ty).run Tryz.prog wr = _ := fun ty => Lib.run_next_ascii_at (P := Tryz.prog) wr w.heap.size s p ty hit hlt (by rw [byt_get]; omega)
      simp only [byt_get] at hnx
      have HIT := Lib.hid (Lib.iterAt_heap wr w.heap.size s p (p + 1) hit)
      have HPOS := Lib.hid (show wr.iterPos w.heap.size = p by simp [World.iterPos, hit])
      have hB2 := Lib.below_iterAt hB (Nat.le_refl _) s (p + 1)
      have HST := Lib.hid (pv_succ s hlt)
      generalize wr.iterAt w.heap.size s (p + 1) = w1 at *
      obtain ⟨D, hD⟩ : ∃ D : Nat, byt s p = 48 + D := ⟨byt s p - 48, by omega⟩
      have hD9 : D ≤ 9 := by omega
      rw [hD] at hnx HST
      have hw0 : IntKind.u64.wrap (10 * (N : Int)) = 10 * (N : Int) := by rw [IntKind.wrap_u64]; omega
      have hw1 : IntKind.i32.wrap (((48 + D : Nat) : Int) - 48) = (D : Int) := by rw [IntKind.wrap_i32]; omega
      have hw2 : IntKind.u64.wrap (D : Int) = (D : Int) := by rw [IntKind.wrap_u64]; omega
      have hw3 : IntKind.u64.wrap (10 * (N : Int) + D) = ((10 * N + D : Nat) : Int) := by rw [IntKind.wrap_u64]; omega
      have hw4 : IntKind.u64.wrap (10 * (T : Int)) = ((10 * T : Nat) : Int) := by rw [IntKind.wrap_u64]; omega
      have hw5 : IntKind.i64.wrap ((p : Int) + 1) = ((p + 1 : Nat) : Int) := by rw [IntWalk.i64_in _ (by omega)]; omega
      have HV2 : Hid (V * (10 * T) + (10 * N + D) = pv s (p + 1)) := Lib.hid (by
        rw [HST.out, ← hV.out, show 48 + D - 48 = D by omega, Nat.mul_add, Nat.mul_left_comm]; omega)
      have hN2 : 10 * N + D < 10 * T := by omega
      have HT2 := Lib.hid (show 10 * T < 10000000000000000000 by omega)
      have HP2 : Hid (pv s (p + 1) < 10 ^ (p + 1)) := Lib.hid (HPL.out (p + 1) hlt)
      clear hd1 hd2 hV hit hD hD9 hB hN
      by_cases hc : 10 * T < 1000000000000000000 ∧ p + 1 < s.size
      · have hc1 : ((10 * T : Nat) : Int) < 1000000000000000000 := by omega
        have hc2 : ((p + 1 : Nat) : Int) < (s.size : Int) := by omega
        have HC := Lib.hid hc
        clear hc hT
        generalize 10 * N + D = N2 at *
        generalize 10 * T = T2 at *
        generalize ((48 + D : Nat) : Int) = d at *
        obtain ⟨TI, hTI⟩ : ∃ TI : Int, TI = (T2 : Int) := ⟨_, rfl⟩
        rw [← hTI] at hc1 hw4
        have HTI := Lib.hid hTI
        clear hTI
        go_wp2_with fail
        go_roundw
        case rel => exact ⟨p + 1, V, N2, T2, rfl, rfl, by rw [HTI.out], hlt, HV2, hN2, HC.out.1, Lib.hid (fun h => absurd HC.out.2 (by omega)), HIT.out, hB2⟩
        case measure => rw [HPOS.out]; simp [World.iterPos, HIT.out]; omega
      · have cO := Lib.hid (fun (x : Nat) W (h : x < 10000000000000000000) => nOf_any x W (Nat.lt_trans h (by decide)))
        have hVp : V * (10 * T) < 10 ^ (p + 1) := Nat.lt_of_le_of_lt (Nat.le_add_right _ _) (HV2.out ▸ HP2.out)
        have hV1 : V ≤ V * (10 * T) := Nat.le_mul_of_pos_right _ (by omega)
        have cM := Lib.hid (fun W => nMul_any (nstr V) (nstr (10 * T)) W (Nat.le_trans (nstr_le10 (Nat.lt_of_le_of_lt hV1 hVp)) (by omega)) (Nat.le_trans (nstr_le10 (n := 19) HT2.out) (by decide)))
        rw [sval_nstr, sval_nstr] at cM
        have cA := Lib.hid (fun W => add2_any (nstr (V * (10 * T))) (nstr (10 * N + D)) W 9 (Nat.le_trans (nstr_le10 hVp) (by omega)) (Nat.le_trans (nstr_le10 (n := 19) (Nat.lt_trans hN2 HT2.out)) (by decide)))
        rw [sval_nstr, sval_nstr, HV2.out] at cA
        have c1 := Lib.hid (fun W => cO.out (10 * T) W HT2.out)
        have c2 := Lib.hid (fun W => cO.out (10 * N + D) W (Nat.lt_trans hN2 HT2.out))
        clear cO hVp hV1
        have HLT := Lib.hid hlt
        have hcase : (((10 * T : Nat) : Int) < 1000000000000000000 ∧ ¬ ((p + 1 : Nat) : Int) < (s.size : Int)) ∨ ¬ ((10 * T : Nat) : Int) < 1000000000000000000 := by omega
        have HHC := Lib.hid hcase
        clear hc hT hN2 hcase hlt
        generalize nstr (V * (10 * T)) = z1 at *
        generalize nstr (10 * N + D) = z2 at *
        generalize nstr (10 * T) = z3 at *
        generalize 10 * N + D = N2 at *
        generalize 10 * T = T2 at *
        generalize ((48 + D : Nat) : Int) = d at *
        generalize (T2 : Int) = TI at *
        generalize (N2 : Int) = NI at *
        have hlt2 : (p : Int) + 1 ≤ s.size := by have := HLT.out; omega
        rcases HHC.out with ⟨hc1, hc2⟩ | hc1
        · have d1 : decide (TI < 1000000000000000000) = true := decide_eq_true hc1
          have d2 : decide (((p + 1 : Nat) : Int) < (s.size : Int)) = false := decide_eq_false hc2
          go_wp2_with fail
          refine (c1.out _).mono ?_
          rintro e w2 ⟨rfl, hb⟩
          replace hB2 := nxt hB2 hb
          replace HIT := Lib.hid ((hb.block _ (iter_lt HIT.out)).trans HIT.out)
          clear hb
          go_wp2_with fail
          refine (cM.out _).mono ?_
          rintro e w3 ⟨rfl, hb⟩
          replace hB2 := nxt hB2 hb
          replace HIT := Lib.hid ((hb.block _ (iter_lt HIT.out)).trans HIT.out)
          clear hb
          go_wp2_with fail
          refine (c2.out _).mono ?_
          rintro e w4 ⟨rfl, hb⟩
          replace hB2 := nxt hB2 hb
          replace HIT := Lib.hid ((hb.block _ (iter_lt HIT.out)).trans HIT.out)
          clear hb
          go_wp2_with fail
          refine (cA.out _).mono ?_
          rintro e w5 ⟨rfl, hb⟩
          replace hB2 := nxt hB2 hb
          replace HIT := Lib.hid ((hb.block _ (iter_lt HIT.out)).trans HIT.out)
          clear hb
          go_wp2_with fail
          go_roundw
          case rel => exact ⟨p + 1, pv s (p + 1), 0, 1, rfl, rfl, rfl, HLT.out, Lib.hid (by omega), by decide, by decide, Lib.hid (fun _ => rfl), HIT.out, hB2⟩
          case measure => have := HLT.out; rw [HPOS.out]; simp [World.iterPos, HIT.out]; omega
        · have d1 : decide (TI < 1000000000000000000) = false := decide_eq_false hc1
          go_wp2_with fail
          refine (c1.out _).mono ?_
          rintro e w2 ⟨rfl, hb⟩
          replace hB2 := nxt hB2 hb
          replace HIT := Lib.hid ((hb.block _ (iter_lt HIT.out)).trans HIT.out)
          clear hb
          go_wp2_with fail
          refine (cM.out _).mono ?_
          rintro e w3 ⟨rfl, hb⟩
          replace hB2 := nxt hB2 hb
          replace HIT := Lib.hid ((hb.block _ (iter_lt HIT.out)).trans HIT.out)
          clear hb
          go_wp2_with fail
          refine (c2.out _).mono ?_
          rintro e w4 ⟨rfl, hb⟩
          replace hB2 := nxt hB2 hb
          replace HIT := Lib.hid ((hb.block _ (iter_lt HIT.out)).trans HIT.out)
          clear hb
          go_wp2_with fail
          refine (cA.out _).mono ?_
          rintro e w5 ⟨rfl, hb⟩
          replace hB2 := nxt hB2 hb
          replace HIT := Lib.hid ((hb.block _ (iter_lt HIT.out)).trans HIT.out)
          clear hb
          go_wp2_with fail
          go_roundw
          case rel => exact ⟨p + 1, pv s (p + 1), 0, 1, rfl, rfl, rfl, HLT.out, Lib.hid (by omega), by decide, by decide, Lib.hid (fun _ => rfl), HIT.out, hB2⟩
          case measure => have := HLT.out; rw [HPOS.out]; simp [World.iterPos, HIT.out]; omega
    · obtain rfl : p = s.size := by omega
      have hnx : ∀ ty, (Instr.next (.pointer (some ⟨w.heap.size, 0, none⟩)) true ty).run Tryz.prog wr = _ := fun ty => Lib.run_next_end_at (P := Tryz.prog) wr w.heap.size s s.size ty hit hlt
      have hT1 := hE.out rfl
      have hf := hV.out
      rw [HALL.out] at hf
      have hf2 := Lib.hid (show V = dval s.data.toList by rw [← hf, hT1]; omega)
      clear hf hT1
      go_wp2
      go_ret
      exact ⟨by rw [hf2.out]; rfl, hB⟩
end Go.Proofs.YtkgogbmeehiloaaGreatDoor

