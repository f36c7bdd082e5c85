/- The walks of the document's answers: Shl, Shr, Mul. -/
import Derived.Test.YtpfiaedlicbkiaaDoorRefG
import Derived.Test.YtpfiaedlicbkiaaDoorNatF
namespace Go.Proofs.YtpfiaedlicbkiaaDoor
open Go.RowKit

set_option maxHeartbeats 400000 in
theorem rShl_any (s : ByteArray) (n : Int) (w : World) (hs : s.size ≤ 268435456) (hn : n ≤ 1073741824) :
    Calls Tryd.prog 33 #[.string s, .int .i64 n] w fun e w' => e = .returned (.string (nstr (sval s * 2 ^ n.toNat))) ∧ Below w.heap.size w w' := by
  have B1 := Lib.hid (show nd 1 (sval s) ≤ 2147483648 by have := nd1_size s; omega)
  have l1 := Lib.hid (lt2_nd (sval s))
  have cs := Lib.hid (fun W => rBits_any s W hs)
  generalize sval s = V at *
  have hm := max_int n
  have hup := Lib.hid (show n.toNat ≤ 1073741824 by omega)
  generalize n.toNat = up at *
  go_enter Tryd.func33, Tryd.ntmps33
  go_wp2_with fail
  refine (cs.out w).mono ?_
  rintro e w1 ⟨A, c, rfl, hnc, hr, hb⟩
  go_wp2_with fail
  refine (rPlus_any none A 0 _ 0 c 0 V up w1 (Nat.zero_le _) (by have := B1.out; omega) (by have := hup.out; omega) (Nat.two_pow_pos 0) l1.out Rd.nil_ hr).mono ?_
  rintro e w2 ⟨g, N, rfl, hb2, hg, hr2, hlt, hN⟩
  rw [Nat.zero_add] at hr2 hlt
  have hB2 := below_bel hb hb2 hb.size
  have HN := Lib.hid (show N ≤ 4294967296 by have := B1.out; have := hup.out; omega)
  have HL := Lib.hid hlt
  clear hN hlt
  go_wp2_with fail
  refine (rText_any _ N N _ w2 HN.out (Nat.le_refl _) HL.out hr2).mono ?_
  rintro e w3 ⟨rfl, hb3⟩
  go_wp2
  go_ret
  exact ⟨rfl, below_bel hB2 hb3 hB2.size⟩

set_option maxHeartbeats 400000 in
theorem rShr_any (s : ByteArray) (n : Int) (w : World) (hs : s.size ≤ 268435456) (hn : n ≤ 9223372036854775807) :
    Calls Tryd.prog 35 #[.string s, .int .i64 n] w fun e w' => e = .returned (.string (nstr (sval s / 2 ^ n.toNat))) ∧ Below w.heap.size w w' := by
  have B1 := Lib.hid (show nd 1 (sval s) ≤ 2147483648 by have := nd1_size s; omega)
  have l1 := Lib.hid (lt2_nd (sval s))
  have cs := Lib.hid (fun W => rBits_any s W hs)
  generalize sval s = V at *
  have hmain : ∀ (A : Option Addr) (c m : Nat) (w1 : World), m < nd 1 V → Rd w1 A (nd 1 V) (bitv V) → ∃ b off, A = some ⟨b, off, none⟩ ∧ Rd w1 (some ⟨b, off + m, none⟩) (nd 1 V - m) (bitv (V / 2 ^ m)) := by
    intro A c m w1 hm hr
    obtain ⟨b, off, rfl, hc⟩ := hr (by omega)
    refine ⟨b, off, rfl, fun _ => ⟨b, off + m, rfl, fun j hj => ?_⟩⟩
    rw [Nat.add_assoc, hc (m + j) (by omega)]
    unfold bitv; rw [dgt_div]
  have hdiv : ∀ m, m < nd 1 V → V / 2 ^ m < 2 ^ (nd 1 V - m) := fun m hm => by
    rw [Nat.div_lt_iff_lt_mul (Nat.two_pow_pos m), ← Nat.pow_add, Nat.sub_add_cancel (by omega)]; exact l1.out
  have hzero : ∀ m, nd 1 V ≤ m → V / 2 ^ m = 0 := fun m hm => Nat.div_eq_of_lt (Nat.lt_of_lt_of_le l1.out (Nat.pow_le_pow_right (by decide) hm))
  have HM := Lib.hid hmain
  have HDV := Lib.hid hdiv
  have HZ := Lib.hid hzero
  clear hmain hdiv hzero
  obtain ⟨m, hm⟩ : ∃ m, m = n.toNat := ⟨_, rfl⟩
  rw [← hm]
  by_cases hneg : n < 0
  · obtain rfl : m = 0 := by omega
    clear hm
    by_cases h0 : nd 1 V = 0
    · have hfin := Lib.hid (HZ.out 0 (by omega))
      go_enter Tryd.func35, Tryd.ntmps35
      go_wp2_with fail
      refine (cs.out w).mono ?_
      rintro e w1 ⟨A, c, rfl, hnc, hr, hb⟩
      go_wp2
      go_ret
      exact ⟨by rw [hfin.out]; rfl, hb⟩
    · have hpos : 0 < nd 1 V := by omega
      have hB := Lib.hid (show nd 1 V ≤ 4294967296 by have := B1.out; omega)
      have hfin := Lib.hid (show V / 2 ^ 0 = V by rw [Nat.pow_zero, Nat.div_one])
      have ctx := Lib.hid (fun A c W (hnc : nd 1 V ≤ c) (hr : Rd W A (nd 1 V) (bitv V)) => rText_any A (nd 1 V) c V W hB.out hnc l1.out hr)
      go_enter Tryd.func35, Tryd.ntmps35
      go_wp2_with fail
      refine (cs.out w).mono ?_
      rintro e w1 ⟨A, c, rfl, hnc, hr, hb⟩
      obtain ⟨b, off, rfl, _⟩ := id hr hpos
      have hc3 := Lib.hid (ctx.out _ c w1 hnc hr)
      go_wp2_with fail
      refine hc3.out.mono ?_
      rintro e w3 ⟨rfl, hb3⟩
      go_wp2
      go_ret
      exact ⟨by rw [hfin.out]; rfl, below_bel hb hb3 hb.size⟩
  · obtain rfl : n = (m : Int) := by omega
    clear hm
    by_cases hge : nd 1 V ≤ m
    · have hfin := Lib.hid (HZ.out m hge)
      have hge' : ((nd 1 V : Nat) : Int) ≤ (m : Int) := by omega
      go_enter Tryd.func35, Tryd.ntmps35
      go_wp2_with fail
      refine (cs.out w).mono ?_
      rintro e w1 ⟨A, c, rfl, hnc, hr, hb⟩
      go_wp2
      go_ret
      exact ⟨by rw [hfin.out]; rfl, hb⟩
    · have hlt : m < nd 1 V := by omega
      have hl := Lib.hid (HDV.out m hlt)
      have hB := Lib.hid (show nd 1 V - m ≤ 4294967296 by have := B1.out; omega)
      go_enter Tryd.func35, Tryd.ntmps35
      go_wp2_with fail
      refine (cs.out w).mono ?_
      rintro e w1 ⟨A, c, rfl, hnc, hr, hb⟩
      obtain ⟨b, off, rfl, hr2⟩ := HM.out A c m w1 hlt hr
      have hc3 := Lib.hid (rText_any _ _ (c - m) _ w1 hB.out (by omega) hl.out hr2)
      go_wp2_with fail
      refine hc3.out.mono ?_
      rintro e w3 ⟨rfl, hb3⟩
      go_wp2
      go_ret
      exact ⟨rfl, below_bel hb hb3 hb.size⟩
end Go.Proofs.YtpfiaedlicbkiaaDoor
