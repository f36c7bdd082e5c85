/- The walk of ogeelaw01.NatBits: it answers true whatever the texts and the number. -/
import Derived.Test.YtpfiaedlicbkiaaDoorLawParts
namespace Go.Proofs.YtpfiaedlicbkiaaDoor
open Go.RowKit

theorem len_c (s : ByteArray) (w : World) (hs : s.size ≤ 1073741824) :
    Calls Tryd.prog 18 #[.string s] w fun e w' => e = .returned (.int .i64 (nd 1 (sval s) : Nat)) ∧ Below w.heap.size w w' := nLen_any s w (by omega)
theorem zeros_c (s : ByteArray) (w : World) (hs : s.size ≤ 1073741824) (hT : TabAt 0 Lib.deBruijn64tab w) :
    Calls Tryd.prog 20 #[.string s] w fun e w' => e = .returned (.int .i64 (tz (sval s) : Nat)) ∧ Below w.heap.size w w' := nZeros_any s w (by omega) hT
theorem shl_c (s : ByteArray) (k : Nat) (w : World) (hs : s.size ≤ 1073741824) (hk : k ≤ 68719476736) :
    Calls Tryd.prog 32 #[.string s, .int .i64 (k : Nat)] w fun e w' => e = .returned (.string (nstr (sval s * 2 ^ k))) ∧ Below w.heap.size w w' := nShl_any s k w (by omega) (by omega)
theorem shr_c (s : ByteArray) (k : Nat) (w : World) (hs : s.size ≤ 1073741824) (hk : k ≤ 68719476736) :
    Calls Tryd.prog 34 #[.string s, .int .i64 (k : Nat)] w fun e w' => e = .returned (.string (nstr (sval s / 2 ^ k))) ∧ Below w.heap.size w w' := nShr_any s k w (by omega) (by omega)
theorem and_2047 (n : Int) : ∃ k : Nat, k ≤ 2047 ∧ bits .and .i64 n 2047 = (k : Int) := by
  refine ⟨(BitVec.ofInt 64 n &&& 2047#64).toNat, ?_, ?_⟩
  · rw [BitVec.toNat_and]; exact Nat.and_le_right
  · have h : (BitVec.ofInt 64 n &&& 2047#64).toNat ≤ 2047 := by rw [BitVec.toNat_and]; exact Nat.and_le_right
    show IntKind.i64.wrap ((BitVec.ofInt 64 n &&& BitVec.ofInt 64 2047).toNat : Int) = _
    rw [show BitVec.ofInt 64 2047 = 2047#64 from rfl]
    exact IntWalk.i64_in _ (by omega)
theorem nd1_shl {v k : Nat} (h : v ≠ 0) : nd 1 (v * 2 ^ k) = nd 1 v + k := by
  have h1 := nd_lt (k := 1) (by decide) v
  have h2 := nd_le (k := 1) v h
  have h3 := nd_pos (k := 1) h
  simp only [Nat.pow_one] at h1 h2
  refine nd_eq (k := 1) (by decide) ?_ (fun _ => ?_)
  · rw [Nat.pow_one, Nat.pow_add]; exact Nat.mul_lt_mul_of_pos_right h1 (Nat.two_pow_pos _)
  · rw [Nat.pow_one, show nd 1 v + k - 1 = (nd 1 v - 1) + k by omega, Nat.pow_add]; exact Nat.mul_le_mul_right _ h2
theorem tz_shl {v k : Nat} (h : v ≠ 0) : tz (v * 2 ^ k) = tz v + k := by
  obtain ⟨m, hm⟩ := tz_spec h
  refine tz_eq (m := m) ?_
  conv => lhs; rw [hm]
  rw [Nat.pow_add, Nat.mul_assoc, Nat.mul_assoc, Nat.mul_comm (2 * m + 1)]
theorem tz_le (v : Nat) : tz v ≤ nd 1 v := by
  by_cases h : v = 0
  · subst h; decide
  · obtain ⟨m, hm⟩ := tz_spec h
    refine Nat.le_of_lt (lt_nd (k := 1) (by decide) ?_)
    rw [Nat.pow_one]
    conv => rhs; rw [hm]
    exact Nat.le_mul_of_pos_right _ (by omega)
theorem nd1_mul {u v : Nat} (hu : u ≠ 0) (hv : v ≠ 0) : nd 1 (u * v) = nd 1 u + nd 1 v ∨ nd 1 (u * v) = nd 1 u + nd 1 v - 1 := by
  have a1 := nd_lt (k := 1) (by decide) u
  have a2 := nd_le (k := 1) u hu
  have a3 := nd_pos (k := 1) hu
  have b1 := nd_lt (k := 1) (by decide) v
  have b2 := nd_le (k := 1) v hv
  have b3 := nd_pos (k := 1) hv
  simp only [Nat.pow_one] at a1 a2 b1 b2
  have h1 : nd 1 (u * v) ≤ nd 1 u + nd 1 v := nd_le_of_lt (by decide) (by rw [Nat.pow_one, Nat.pow_add]; exact Nat.mul_lt_mul'' a1 b1)
  have h2 : nd 1 u - 1 + (nd 1 v - 1) < nd 1 (u * v) := lt_nd (by decide) (by rw [Nat.pow_one, Nat.pow_add]; exact Nat.mul_le_mul a2 b2)
  omega

set_option maxRecDepth 100000 in
set_option maxHeartbeats 1000000 in
theorem natBits_big (a b : ByteArray) (n : Int) (w : World) (hT : TabAt 0 Lib.deBruijn64tab w) (h : 300 < a.size ∨ 300 < b.size) :
    Calls Tryd.prog 11 #[.string a, .string b, .int .i64 n] w fun e w' => e = .returned (.bool true) ∧ Below w.heap.size w w' := by
  have HA := Lib.hid (awake_any w hT)
  clear hT
  by_cases h1 : 300 < a.size
  · clear h
    go_enter Tryd.func11, Tryd.ntmps11
    go_wp2_with (go_at_call 12; refine HA.out.mono ?_; rintro e wn ⟨rfl, hb⟩)
    go_ret
    exact ⟨rfl, hb⟩
  · have h2 : 300 < b.size := by omega
    clear h
    go_enter Tryd.func11, Tryd.ntmps11
    go_wp2_with (go_at_call 12; refine HA.out.mono ?_; rintro e wn ⟨rfl, hb⟩)
    go_ret
    exact ⟨rfl, hb⟩

set_option maxRecDepth 100000 in
set_option maxHeartbeats 8000000 in
theorem natBits_main (a b : ByteArray) (n : Int) (w : World) (hT : TabAt 0 Lib.deBruijn64tab w) (h1 : a.size ≤ 300) (h2 : b.size ≤ 300) :
    Calls Tryd.prog 11 #[.string a, .string b, .int .i64 n] w fun e w' => e = .returned (.bool true) ∧ Below w.heap.size w w' := by
  have HT := Lib.hid hT
  have hB := Below.refl w.heap.size w
  obtain ⟨k, hk, hkn⟩ := and_2047 n
  obtain ⟨E, hE⟩ : ∃ E, E = 300 := ⟨_, rfl⟩
  have ka := sval_le (k := E) (by omega : a.size ≤ E)
  have kb := sval_le (k := E) (by omega : b.size ≤ E)
  have kx : nd 1 (sval a) ≤ 2400 := by have := nd1_le256 ka; omega
  have ky : nd 1 (sval b) ≤ 2400 := by have := nd1_le256 kb; omega
  have kt : tz (sval a) ≤ 2400 := Nat.le_trans (tz_le _) kx
  have kk := pow_lt256 (k := k) (j := E) (by omega)
  have hk2 : k ≤ 68719476736 := by omega
  have za : a.size ≤ 1073741824 := by omega
  have zb : b.size ≤ 1073741824 := by omega
  have zab := sz (mul_lt256 ka kb) (by omega)
  have zup := sz (mul_lt256 ka kk) (by omega)
  have zk := sz kk (by omega)
  have z1 : (⟨#[1]⟩ : ByteArray).size ≤ 1073741824 := by decide
  have hsv := sval_nstr
  have r1 : sval ⟨#[1]⟩ * 2 ^ k = 2 ^ k := by rw [show sval ⟨#[1]⟩ = 1 by decide, Nat.one_mul]
  have r2 : sval a * 2 ^ k / 2 ^ k = sval a := Nat.mul_div_cancel _ (Nat.two_pow_pos k)
  clear hT ka kb kk hE
  by_cases ha : sval a = 0
  · have q1 : ((nd 1 (sval a) : Nat) : Int) = 0 := by rw [ha]; rfl
    have q2 : sval a * 2 ^ k = 0 := by rw [ha, Nat.zero_mul]
    have q3 : nstr 0 = ⟨#[]⟩ := nstr_zero
    have q4 : sval ⟨#[]⟩ = 0 := by decide
    have q5 : 0 / 2 ^ k = 0 := Nat.zero_div _
    have q6 : sval a = 0 := ha
    have q7 : nd 1 0 = 0 := rfl
    have q8 : 0 * 2 ^ k = 0 := Nat.zero_mul _
    have q9 : (⟨#[]⟩ : ByteArray).size ≤ 1073741824 := by decide
    have ky0 : (0 : Int) ≤ ((nd 1 (sval b) : Nat) : Int) := by omega
    clear ha zup zab q1
    go_enter Tryd.func11, Tryd.ntmps11
    go_wp2_with (first
    | (go_at_call 18; refine (len_c _ _ (by assumption)).mono ?_; rintro e wn ⟨rfl, hb⟩; replace hB := below_bel hB hb hB.size)
    | (go_at_call 20; refine (zeros_c _ _ (by assumption) (tab_keep HT.out hB)).mono ?_; rintro e wn ⟨rfl, hb⟩; replace hB := below_bel hB hb hB.size)
    | (go_at_call 32; refine (shl_c _ _ _ (by assumption) hk2).mono ?_; rintro e wn ⟨rfl, hb⟩; replace hB := below_bel hB hb hB.size)
    | (go_at_call 34; refine (shr_c _ _ _ (by assumption) hk2).mono ?_; rintro e wn ⟨rfl, hb⟩; replace hB := below_bel hB hb hB.size)
    | (go_at_call 24; refine (cmp_c _ _ _ (by assumption) (by assumption)).mono ?_; rintro e wn ⟨rfl, hb⟩; replace hB := below_bel hB hb hB.size)
    | (go_at_call 28; refine (mul_c _ _ _ (by assumption) (by assumption)).mono ?_; rintro e wn ⟨rfl, hb⟩; replace hB := below_bel hB hb hB.size)
    | (go_at_call 15; refine (nTrim_any _ _).mono ?_; rintro e wn ⟨rfl, rfl⟩)
    | (go_at_call 12; refine (awake_any _ (tab_keep HT.out hB)).mono ?_; rintro e wn ⟨rfl, hb⟩; replace hB := below_bel hB hb hB.size))
    go_ret
    exact ⟨rfl, hB⟩
  · have hx := nd_pos (k := 1) ha
    have p1 := nd1_shl (k := k) ha
    have p2 := tz_shl (k := k) ha
    have p3 : (((nd 1 (sval a) : Nat) : Int) == 0) = false := beq_eq_false_iff_ne.2 (by omega)
    by_cases hb : sval b = 0
    · have q6 : sval b = 0 := hb
      have q7 : nd 1 0 = 0 := rfl
      have hc := cmpI_one (u := sval a) (v := 0) (by omega)
      clear ha hb ky
      go_enter Tryd.func11, Tryd.ntmps11
      go_wp2_with (first
      | (go_at_call 18; refine (len_c _ _ (by assumption)).mono ?_; rintro e wn ⟨rfl, hb⟩; replace hB := below_bel hB hb hB.size)
      | (go_at_call 20; refine (zeros_c _ _ (by assumption) (tab_keep HT.out hB)).mono ?_; rintro e wn ⟨rfl, hb⟩; replace hB := below_bel hB hb hB.size)
      | (go_at_call 32; refine (shl_c _ _ _ (by assumption) hk2).mono ?_; rintro e wn ⟨rfl, hb⟩; replace hB := below_bel hB hb hB.size)
      | (go_at_call 34; refine (shr_c _ _ _ (by assumption) hk2).mono ?_; rintro e wn ⟨rfl, hb⟩; replace hB := below_bel hB hb hB.size)
      | (go_at_call 24; refine (cmp_c _ _ _ (by assumption) (by assumption)).mono ?_; rintro e wn ⟨rfl, hb⟩; replace hB := below_bel hB hb hB.size)
      | (go_at_call 28; refine (mul_c _ _ _ (by assumption) (by assumption)).mono ?_; rintro e wn ⟨rfl, hb⟩; replace hB := below_bel hB hb hB.size)
      | (go_at_call 15; refine (nTrim_any _ _).mono ?_; rintro e wn ⟨rfl, rfl⟩)
      | (go_at_call 12; refine (awake_any _ (tab_keep HT.out hB)).mono ?_; rintro e wn ⟨rfl, hb⟩; replace hB := below_bel hB hb hB.size))
      go_ret
      exact ⟨rfl, hB⟩
    · have hy := nd_pos (k := 1) hb
      have hcmp : nd 1 (sval b) < nd 1 (sval a) → cmpI (sval a) (sval b) = 1 := fun h => cmpI_one (lt_of_nd_lt (k := 1) (by decide) h)
      rcases nd1_mul ha hb with hm | hm
      · clear ha hb
        by_cases hgt : nd 1 (sval b) < nd 1 (sval a)
        · have hc := hcmp hgt
          clear hcmp
          go_enter Tryd.func11, Tryd.ntmps11
          go_wp2_with (first
          | (go_at_call 18; refine (len_c _ _ (by assumption)).mono ?_; rintro e wn ⟨rfl, hb⟩; replace hB := below_bel hB hb hB.size)
          | (go_at_call 20; refine (zeros_c _ _ (by assumption) (tab_keep HT.out hB)).mono ?_; rintro e wn ⟨rfl, hb⟩; replace hB := below_bel hB hb hB.size)
          | (go_at_call 32; refine (shl_c _ _ _ (by assumption) hk2).mono ?_; rintro e wn ⟨rfl, hb⟩; replace hB := below_bel hB hb hB.size)
          | (go_at_call 34; refine (shr_c _ _ _ (by assumption) hk2).mono ?_; rintro e wn ⟨rfl, hb⟩; replace hB := below_bel hB hb hB.size)
          | (go_at_call 24; refine (cmp_c _ _ _ (by assumption) (by assumption)).mono ?_; rintro e wn ⟨rfl, hb⟩; replace hB := below_bel hB hb hB.size)
          | (go_at_call 28; refine (mul_c _ _ _ (by assumption) (by assumption)).mono ?_; rintro e wn ⟨rfl, hb⟩; replace hB := below_bel hB hb hB.size)
          | (go_at_call 15; refine (nTrim_any _ _).mono ?_; rintro e wn ⟨rfl, rfl⟩)
          | (go_at_call 12; refine (awake_any _ (tab_keep HT.out hB)).mono ?_; rintro e wn ⟨rfl, hb⟩; replace hB := below_bel hB hb hB.size))
          go_ret
          exact ⟨rfl, hB⟩
        · clear hcmp
          go_enter Tryd.func11, Tryd.ntmps11
          go_wp2_with (first
          | (go_at_call 18; refine (len_c _ _ (by assumption)).mono ?_; rintro e wn ⟨rfl, hb⟩; replace hB := below_bel hB hb hB.size)
          | (go_at_call 20; refine (zeros_c _ _ (by assumption) (tab_keep HT.out hB)).mono ?_; rintro e wn ⟨rfl, hb⟩; replace hB := below_bel hB hb hB.size)
          | (go_at_call 32; refine (shl_c _ _ _ (by assumption) hk2).mono ?_; rintro e wn ⟨rfl, hb⟩; replace hB := below_bel hB hb hB.size)
          | (go_at_call 34; refine (shr_c _ _ _ (by assumption) hk2).mono ?_; rintro e wn ⟨rfl, hb⟩; replace hB := below_bel hB hb hB.size)
          | (go_at_call 24; refine (cmp_c _ _ _ (by assumption) (by assumption)).mono ?_; rintro e wn ⟨rfl, hb⟩; replace hB := below_bel hB hb hB.size)
          | (go_at_call 28; refine (mul_c _ _ _ (by assumption) (by assumption)).mono ?_; rintro e wn ⟨rfl, hb⟩; replace hB := below_bel hB hb hB.size)
          | (go_at_call 15; refine (nTrim_any _ _).mono ?_; rintro e wn ⟨rfl, rfl⟩)
          | (go_at_call 12; refine (awake_any _ (tab_keep HT.out hB)).mono ?_; rintro e wn ⟨rfl, hb⟩; replace hB := below_bel hB hb hB.size))
          go_ret
          exact ⟨rfl, hB⟩
      · obtain ⟨M, hM⟩ : ∃ M, nd 1 (sval a) + nd 1 (sval b) = M + 1 := ⟨nd 1 (sval a) + nd 1 (sval b) - 1, by omega⟩
        have hm2 : nd 1 (sval a * sval b) = M := by omega
        have m1 : (((M : Nat) : Int) != ((nd 1 (sval a) : Nat) : Int) + ((nd 1 (sval b) : Nat) : Int)) = true := by rw [bne_iff_ne]; omega
        have m2 : (((M : Nat) : Int) != ((nd 1 (sval a) : Nat) : Int) + ((nd 1 (sval b) : Nat) : Int) - 1) = false := by rw [bne_eq_false_iff_eq]; omega
        clear ha hb hm hM
        by_cases hgt : nd 1 (sval b) < nd 1 (sval a)
        · have hc := hcmp hgt
          clear hcmp
          go_enter Tryd.func11, Tryd.ntmps11
          go_wp2_with (first
          | (go_at_call 18; refine (len_c _ _ (by assumption)).mono ?_; rintro e wn ⟨rfl, hb⟩; replace hB := below_bel hB hb hB.size)
          | (go_at_call 20; refine (zeros_c _ _ (by assumption) (tab_keep HT.out hB)).mono ?_; rintro e wn ⟨rfl, hb⟩; replace hB := below_bel hB hb hB.size)
          | (go_at_call 32; refine (shl_c _ _ _ (by assumption) hk2).mono ?_; rintro e wn ⟨rfl, hb⟩; replace hB := below_bel hB hb hB.size)
          | (go_at_call 34; refine (shr_c _ _ _ (by assumption) hk2).mono ?_; rintro e wn ⟨rfl, hb⟩; replace hB := below_bel hB hb hB.size)
          | (go_at_call 24; refine (cmp_c _ _ _ (by assumption) (by assumption)).mono ?_; rintro e wn ⟨rfl, hb⟩; replace hB := below_bel hB hb hB.size)
          | (go_at_call 28; refine (mul_c _ _ _ (by assumption) (by assumption)).mono ?_; rintro e wn ⟨rfl, hb⟩; replace hB := below_bel hB hb hB.size)
          | (go_at_call 15; refine (nTrim_any _ _).mono ?_; rintro e wn ⟨rfl, rfl⟩)
          | (go_at_call 12; refine (awake_any _ (tab_keep HT.out hB)).mono ?_; rintro e wn ⟨rfl, hb⟩; replace hB := below_bel hB hb hB.size))
          go_ret
          exact ⟨rfl, hB⟩
        · clear hcmp
          go_enter Tryd.func11, Tryd.ntmps11
          go_wp2_with (first
          | (go_at_call 18; refine (len_c _ _ (by assumption)).mono ?_; rintro e wn ⟨rfl, hb⟩; replace hB := below_bel hB hb hB.size)
          | (go_at_call 20; refine (zeros_c _ _ (by assumption) (tab_keep HT.out hB)).mono ?_; rintro e wn ⟨rfl, hb⟩; replace hB := below_bel hB hb hB.size)
          | (go_at_call 32; refine (shl_c _ _ _ (by assumption) hk2).mono ?_; rintro e wn ⟨rfl, hb⟩; replace hB := below_bel hB hb hB.size)
          | (go_at_call 34; refine (shr_c _ _ _ (by assumption) hk2).mono ?_; rintro e wn ⟨rfl, hb⟩; replace hB := below_bel hB hb hB.size)
          | (go_at_call 24; refine (cmp_c _ _ _ (by assumption) (by assumption)).mono ?_; rintro e wn ⟨rfl, hb⟩; replace hB := below_bel hB hb hB.size)
          | (go_at_call 28; refine (mul_c _ _ _ (by assumption) (by assumption)).mono ?_; rintro e wn ⟨rfl, hb⟩; replace hB := below_bel hB hb hB.size)
          | (go_at_call 15; refine (nTrim_any _ _).mono ?_; rintro e wn ⟨rfl, rfl⟩)
          | (go_at_call 12; refine (awake_any _ (tab_keep HT.out hB)).mono ?_; rintro e wn ⟨rfl, hb⟩; replace hB := below_bel hB hb hB.size))
          go_ret
          exact ⟨rfl, hB⟩

theorem natBits_any (a b : ByteArray) (n : Int) (w : World) (hT : TabAt 0 Lib.deBruijn64tab w) :
    Calls Tryd.prog 11 #[.string a, .string b, .int .i64 n] w fun e w' => e = .returned (.bool true) ∧ Below w.heap.size w w' := by
  by_cases h : 300 < a.size ∨ 300 < b.size
  · exact natBits_big a b n w hT h
  · exact natBits_main a b n w hT (by omega) (by omega)
end Go.Proofs.YtpfiaedlicbkiaaDoor
