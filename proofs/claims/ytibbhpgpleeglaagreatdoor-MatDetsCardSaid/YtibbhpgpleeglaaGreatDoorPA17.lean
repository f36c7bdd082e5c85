/- The walks and plain laws beneath the statements. -/
import Derived.Test.YtibbhpgpleeglaaGreatDoorPA16
import Derived.Test.YtibbhpgpleeglaaGreatDoorPA6
namespace Go.Proofs.YtibbhpgpleeglaaGreatDoor
open Go.RowKit

set_option maxRecDepth 100000 in
set_option maxHeartbeats 400000 in
theorem rShl_any (s : ByteArray) (n : Int) (w : World) (hs : s.size ≤ 268435456) (hn : n ≤ 1073741824) :
    Calls Tryz.prog 83 #[.string s, .int .i64 n] w fun e w' => e = .returned (.string (nstr (sval s * 2 ^ n.toNat))) ∧ Below w.heap.size w w' := by
  have B1 := Lib.hid (show nd 1 (sval s) ≤ 2147483648 by have := nd1_size s; omega)
  have l1 := Lib.hid (lt2_nd (sval s))
  have cs := Lib.hid (fun W => rBits_any s W hs)
  generalize sval s = V at *
  have hm := max_int n
  have hup := Lib.hid (show n.toNat ≤ 1073741824 by omega)
  generalize n.toNat = up at *
  go_enter Tryz.func83, Tryz.ntmps83
  go_wp2_with fail
  refine (cs.out w).mono ?_
  rintro e w1 ⟨A, c, rfl, hnc, hr, hb⟩
  go_wp2_with fail
  refine (rPlus_any none A 0 _ 0 c 0 V up w1 (Nat.zero_le _) (by have := B1.out; omega) (by have := hup.out; omega) (Nat.two_pow_pos 0) l1.out Rd.nil_ hr).mono ?_
  rintro e w2 ⟨g, N, rfl, hb2, hg, hr2, hlt, hN⟩
  rw [Nat.zero_add] at hr2 hlt
  have hB2 := below_bel hb hb2 hb.size
  have HN := Lib.hid (show N ≤ 4294967296 by have := B1.out; have := hup.out; omega)
  have HL := Lib.hid hlt
  clear hN hlt
  go_wp2_with fail
  refine (rText_any _ N N _ w2 HN.out (Nat.le_refl _) HL.out hr2).mono ?_
  rintro e w3 ⟨rfl, hb3⟩
  go_wp2
  go_ret
  exact ⟨rfl, below_bel hB2 hb3 hB2.size⟩

end Go.Proofs.YtibbhpgpleeglaaGreatDoor

/- The walks of the document's answers: Mul. -/
namespace Go.Proofs.YtibbhpgpleeglaaGreatDoor
open Go.RowKit

set_option maxRecDepth 100000 in
set_option maxHeartbeats 400000 in
theorem rMul_any (s t : ByteArray) (w : World) (hs : s.size ≤ 16777216) (ht : t.size ≤ 16777216) :
    Calls Tryz.prog 79 #[.string s, .string t] w fun e w' => e = .returned (.string (nstr (sval s * sval t))) ∧ Below w.heap.size w w' := by
  have b1 : nd 1 (sval s) ≤ 134217728 := by have := nd1_size s; omega
  have B2 := Lib.hid (show nd 1 (sval t) ≤ 134217728 by have := nd1_size t; omega)
  have l1 := Lib.hid (lt2_nd (sval s))
  have l2 := Lib.hid (lt2_nd (sval t))
  have cs := Lib.hid (fun W => rBits_any s W (by omega))
  have ct := Lib.hid (fun W => rBits_any t W (by omega))
  generalize sval s = u at *
  generalize sval t = v at *
  go_enter Tryz.func79, Tryz.ntmps79
  go_wp2_with fail
  refine (cs.out w).mono ?_
  rintro e w1 ⟨A, c, rfl, hnc, hr, hb⟩
  go_wp2_with fail
  refine (ct.out w1).mono ?_
  rintro e w2 ⟨A', c', rfl, hnc', hr', hb'⟩
  have hbb := below_bel hb hb' hb.size
  have hr2 := hr.below hb'
  clear hr hb hb'
  go_wp2
  go_loopw [7, 8] (fun o i wr => ∃ k n cc : Nat, ∃ A0 : Option Addr, k ≤ nd 1 u ∧ i = .int .i64 (k : Nat) ∧ o = .slice A0 n cc ∧ Hid (n ≤ cc ∧ n ≤ nd 1 v + k ∧ (u % 2 ^ k) * v < 2 ^ n) ∧ Rd wr A0 n (bitv ((u % 2 ^ k) * v)) ∧ Below w2.heap.size w2 wr) (fun _ i _ => nd 1 u - (intOf i).toNat)
  case atStart => exact ⟨0, 0, 0, none, Nat.zero_le _, rfl, rfl, ⟨Nat.le_refl _, Nat.zero_le _, by rw [Nat.pow_zero, Nat.mod_one, Nat.zero_mul]; decide⟩, Rd.nil_, Below.refl _ _⟩
  case round =>
    obtain ⟨k, n, cc, A0, hk, rfl, rfl, hX, hro, hB⟩ := hrel
    by_cases hlt : k < nd 1 u
    · obtain ⟨b, off, rfl, hc⟩ := hr2 (by omega)
      have g1 : wr.cell? ⟨b, off + k, none⟩ = some (.int .u8 (dgt 2 u k : Nat)) := cell_later hB (hc k hlt)
      have hstep := mod_succ 2 u k
      have HC := Lib.hid hc
      have hrt := hr'.below hB
      by_cases hd : dgt 2 u k = 0
      · have hd0 : (((dgt 2 u k : Nat) : Int) == 1) = false := by rw [hd]; rfl
        have HS := Lib.hid (show u % 2 ^ (k + 1) = u % 2 ^ k by rw [hstep, hd, Nat.mul_zero, Nat.add_zero])
        clear hd hstep hc
        go_wp2
        exact ⟨⟨k + 1, n, cc, A0, hlt, by go_num, rfl, ⟨hX.out.1, by have := hX.out.2.1; omega, by rw [HS.out]; exact hX.out.2.2⟩, by rw [HS.out]; exact hro, hB⟩, by simp [intOf]; omega⟩
      · have hdb : dgt 2 u k < 2 := dgt_lt (by decide) _ _
        have hd1 : dgt 2 u k = 1 := by omega
        have hd0 : (((dgt 2 u k : Nat) : Int) == 1) = true := by rw [hd1]; rfl
        have HS := Lib.hid (show u % 2 ^ (k + 1) * v = u % 2 ^ k * v + v * 2 ^ k by rw [hstep, hd1, Nat.mul_one, Nat.add_mul, Nat.mul_comm (2 ^ k)])
        have cp := Lib.hid (rPlus_any A0 A' n (nd 1 v) cc c' _ v k wr (by have := hX.out.2.1; have := B2.out; omega) (by have := B2.out; omega) (by omega) hX.out.2.2 l2.out hro hrt)
        clear hd hstep hc hd1
        go_wp2_with fail
        refine cp.out.mono ?_
        rintro e w4 ⟨g, N, rfl, hb4, hg, hr4, hf4, hN⟩
        have HF := Lib.hid hf4
        have HN := Lib.hid hN
        clear hf4 hN
        go_wp2
        exact ⟨⟨k + 1, N, N, _, hlt, by go_num, rfl, ⟨Nat.le_refl _, by have := hX.out.2.1; have := HN.out; omega, by rw [HS.out]; exact HF.out⟩, by rw [HS.out]; exact hr4, below_bel hB hb4 hB.size⟩, by simp [intOf]; omega⟩
    · obtain rfl : k = nd 1 u := by omega
      rw [Nat.mod_eq_of_lt l1.out] at hro hX
      have ctx := Lib.hid (rText_any A0 n cc _ wr (by have := hX.out.2.1; have := B2.out; omega) hX.out.1 hX.out.2.2 hro)
      go_wp2_with fail
      refine ctx.out.mono ?_
      rintro e w5 ⟨rfl, hb5⟩
      go_wp2
      go_ret
      have hb6 := below_bel hbb hB hbb.size
      exact ⟨rfl, below_bel hb6 hb5 hb6.size⟩
end Go.Proofs.YtibbhpgpleeglaaGreatDoor

/- The walks of the document's answers: Add. -/
namespace Go.Proofs.YtibbhpgpleeglaaGreatDoor
open Go.RowKit

set_option maxRecDepth 100000 in
set_option maxHeartbeats 400000 in
theorem rAdd_any (A : Option Addr) (n c : Nat) (ss : Nat → ByteArray) (w : World) (hn : n ≤ 1048576) (hs : ∀ j, (ss j).size ≤ 16777216) (hrl : Rd w A n fun j => .string (ss j)) :
    Calls Tryz.prog 81 #[.slice A n c] w fun e w' => e = .returned (.string (nstr (sumTo (fun j => sval (ss j)) n))) ∧ Below w.heap.size w w' := by
  have hnb : ∀ j, nd 1 (sval (ss j)) ≤ 134217728 := fun j => by have := nd1_size (ss j); have := hs j; omega
  have HNB := Lib.hid hnb
  have cs := Lib.hid (fun j W => rBits_any (ss j) W (by have := hs j; omega))
  clear hs hnb
  go_enter Tryz.func81, Tryz.ntmps81
  go_wp2
  go_loopw [3, 4] (fun o i wr => ∃ k m cc : Nat, ∃ A0 : Option Addr, k ≤ n ∧ i = .int .i64 (k : Nat) ∧ o = .slice A0 m cc ∧ Hid (m ≤ cc ∧ m ≤ 134217728 + k ∧ sumTo (fun j => sval (ss j)) k < 2 ^ m) ∧ Rd wr A0 m (bitv (sumTo (fun j => sval (ss j)) k)) ∧ Below w.heap.size w wr) (fun _ i _ => n - (intOf i).toNat)
  case atStart => exact ⟨0, 0, 0, none, Nat.zero_le _, rfl, rfl, ⟨Nat.le_refl _, Nat.zero_le _, by show 0 < 2 ^ 0; decide⟩, Rd.nil_, Below.refl _ _⟩
  case round =>
    obtain ⟨k, m, cc, A0, hk, rfl, rfl, hX, hro, hB⟩ := hrel
    by_cases hlt : k < n
    · obtain ⟨b, off, rfl, hc⟩ := hrl (by omega)
      have g1 : wr.cell? ⟨b, off + k, none⟩ = some (.string (ss k)) := cell_later hB (hc k hlt)
      have HC := Lib.hid hc
      have HNk := Lib.hid (HNB.out k)
      have HS := Lib.hid (show sumTo (fun j => sval (ss j)) (k + 1) = sumTo (fun j => sval (ss j)) k + sval (ss k) * 2 ^ 0 by rw [Nat.pow_zero, Nat.mul_one]; rfl)
      have ck := Lib.hid (cs.out k wr)
      have l2 := Lib.hid (lt2_nd (sval (ss k)))
      clear hc hrl
      generalize sval (ss k) = v at *
      go_wp2_with fail
      refine ck.out.mono ?_
      rintro e w3 ⟨A', c', rfl, hnc', hr', hb3⟩
      have hB3 := below_bel hB hb3 hB.size
      have cp := Lib.hid (rPlus_any A0 A' m (nd 1 v) cc c' _ v 0 w3 (by have := hX.out.2.1; omega) (by have := HNk.out; omega) (by omega) hX.out.2.2 l2.out (hro.below hb3) hr')
      clear hro hr' hb3 hB
      go_wp2_with fail
      refine cp.out.mono ?_
      rintro e w4 ⟨g, N, rfl, hb4, hg, hr4, hf4, hN⟩
      have HF := Lib.hid hf4
      have HN := Lib.hid hN
      clear hf4 hN
      go_wp2
      exact ⟨⟨k + 1, N, N, _, hlt, by go_num, rfl, ⟨Nat.le_refl _, by have := hX.out.2.1; have := HN.out; have := HNk.out; omega, by rw [HS.out]; exact HF.out⟩, by rw [HS.out]; exact hr4, below_bel hB3 hb4 hB3.size⟩, by simp [intOf]; omega⟩
    · obtain rfl : k = n := by omega
      have ctx := Lib.hid (rText_any A0 m cc _ wr (by have := hX.out.2.1; omega) hX.out.1 hX.out.2.2 hro)
      go_wp2_with fail
      refine ctx.out.mono ?_
      rintro e w5 ⟨rfl, hb5⟩
      go_wp2
      go_ret
      exact ⟨rfl, below_bel hB hb5 hB.size⟩
end Go.Proofs.YtibbhpgpleeglaaGreatDoor

