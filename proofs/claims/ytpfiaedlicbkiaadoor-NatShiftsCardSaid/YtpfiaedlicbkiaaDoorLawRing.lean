/- The walk of ogeelaw01.NatRing: it answers true whatever the texts. -/
import Derived.Test.YtpfiaedlicbkiaaDoorLawA
namespace Go.Proofs.YtpfiaedlicbkiaaDoor
open Go.RowKit

theorem sz {v k : Nat} (h : v < 256 ^ k) (hk : k ≤ 1073741824) : (nstr v).size ≤ 1073741824 := by
  rw [nstr_size]; exact Nat.le_trans (nd_le_of_lt (k := 8) (by decide) h) hk
theorem sval_le {s : ByteArray} {k : Nat} (h : s.size ≤ k) : sval s < 256 ^ k := Nat.lt_of_lt_of_le (sval_lt s) (Nat.pow_le_pow_right (by decide) h)
theorem add_lt256 {u v k : Nat} (hu : u < 256 ^ k) (hv : v < 256 ^ k) : u + v < 256 ^ (k + 1) := by
  rw [Nat.pow_succ]; omega
theorem mul_lt256 {u v j k : Nat} (hu : u < 256 ^ j) (hv : v < 256 ^ k) : u * v < 256 ^ (j + k) := by
  rw [Nat.pow_add]; exact Nat.mul_lt_mul'' hu hv
theorem lt256_mono {v j k : Nat} (h : v < 256 ^ j) (hjk : j ≤ k) : v < 256 ^ k := Nat.lt_of_lt_of_le h (Nat.pow_le_pow_right (by decide) hjk)
theorem pow_lt256 {k j : Nat} (h : k < 8 * j) : 2 ^ k < 256 ^ j := by
  rw [show 256 = 2 ^ 8 from rfl, ← Nat.pow_mul]; exact Nat.pow_lt_pow_right (by decide) h
theorem nd1_le256 {v j : Nat} (h : v < 256 ^ j) : nd 1 v ≤ 8 * j := nd_le_of_lt (by decide) (by rw [Nat.pow_one, Nat.pow_mul]; exact h)
theorem mul_c (s t : ByteArray) (w : World) (hs : s.size ≤ 1073741824) (ht : t.size ≤ 1073741824) :
    Calls Tryd.prog 28 #[.string s, .string t] w fun e w' => e = .returned (.string (nstr (sval s * sval t))) ∧ Below w.heap.size w w' := nMul_any s t w (by omega) (by omega)
theorem sub_c (s t : ByteArray) (w : World) (hs : s.size ≤ 1073741824) (ht : t.size ≤ 1073741824) (h : sval t ≤ sval s) :
    Calls Tryd.prog 22 #[.string s, .string t] w fun e w' => e = .returned (.tuple #[.string (nstr (sval s - sval t)), .bool true]) ∧ Below w.heap.size w w' := by
  have := nSub_any s t w (by omega) (by omega)
  rw [if_neg (by omega)] at this
  exact this

set_option maxRecDepth 100000 in
set_option maxHeartbeats 1000000 in
theorem natRing_big (a b c : ByteArray) (w : World) (hT : TabAt 0 Lib.deBruijn64tab w) (h : 300 < a.size ∨ 300 < b.size ∨ 300 < c.size) :
    Calls Tryd.prog 9 #[.string a, .string b, .string c] w fun e w' => e = .returned (.bool true) ∧ Below w.heap.size w w' := by
  have HA := Lib.hid (awake_any w hT)
  clear hT
  by_cases h1 : 300 < a.size
  · clear h
    go_enter Tryd.func9, Tryd.ntmps9
    go_wp2_with (go_at_call 12; refine HA.out.mono ?_; rintro e wn ⟨rfl, hb⟩)
    go_ret
    exact ⟨rfl, hb⟩
  · by_cases h2 : 300 < b.size
    · clear h
      go_enter Tryd.func9, Tryd.ntmps9
      go_wp2_with (go_at_call 12; refine HA.out.mono ?_; rintro e wn ⟨rfl, hb⟩)
      go_ret
      exact ⟨rfl, hb⟩
    · have h3 : 300 < c.size := by omega
      clear h
      go_enter Tryd.func9, Tryd.ntmps9
      go_wp2_with (go_at_call 12; refine HA.out.mono ?_; rintro e wn ⟨rfl, hb⟩)
      go_ret
      exact ⟨rfl, hb⟩

set_option maxRecDepth 100000 in
set_option maxHeartbeats 4000000 in
theorem natRing_main (a b c : ByteArray) (w : World) (hT : TabAt 0 Lib.deBruijn64tab w) (h1 : a.size ≤ 300) (h2 : b.size ≤ 300) (h3 : c.size ≤ 300) :
    Calls Tryd.prog 9 #[.string a, .string b, .string c] w fun e w' => e = .returned (.bool true) ∧ Below w.heap.size w w' := by
  have HT := Lib.hid hT
  have hB := Below.refl w.heap.size w
  have ka := sval_le h1
  have kb := sval_le h2
  have kc := sval_le h3
  have za : a.size ≤ 1073741824 := by omega
  have zb : b.size ≤ 1073741824 := by omega
  have zc : c.size ≤ 1073741824 := by omega
  have zsum := sz (add_lt256 ka kb) (by decide)
  have zbc := sz (add_lt256 kb kc) (by decide)
  have zp := sz (mul_lt256 ka kb) (by decide)
  have zpbc := sz (mul_lt256 kb kc) (by decide)
  have zac := sz (mul_lt256 ka kc) (by decide)
  have z1 : (⟨#[1]⟩ : ByteArray).size ≤ 1073741824 := by decide
  have z0 : (⟨#[]⟩ : ByteArray).size ≤ 1073741824 := by decide
  have hsv := sval_nstr
  have hle : sval b ≤ sval (nstr (sval a + sval b)) := by rw [sval_nstr]; omega
  have r1 : sval b + sval a = sval a + sval b := Nat.add_comm _ _
  have r2 : sval b * sval a = sval a * sval b := Nat.mul_comm _ _
  have r3 : sval a + (sval b + sval c) = sval a + sval b + sval c := (Nat.add_assoc _ _ _).symm
  have r4 : sval a * (sval b * sval c) = sval a * sval b * sval c := (Nat.mul_assoc _ _ _).symm
  have r5 : (sval a + sval b) * sval c = sval a * sval c + sval b * sval c := Nat.add_mul _ _ _
  have r6 : sval a + sval b - sval b = sval a := Nat.add_sub_cancel _ _
  have r7 : sval ⟨#[1]⟩ = 1 := by decide
  have r8 : sval ⟨#[]⟩ = 0 := by decide
  have r9 : nstr 0 = ⟨#[]⟩ := nstr_zero
  clear hT ka kb kc
  go_enter Tryd.func9, Tryd.ntmps9
  go_wp2_with (first
    | (go_at_call 26; refine (add2_any _ _ _ (by assumption) (by assumption)).mono ?_; rintro e wn ⟨rfl, hb⟩; replace hB := below_bel hB hb hB.size)
    | (go_at_call 28; refine (mul_c _ _ _ (by assumption) (by assumption)).mono ?_; rintro e wn ⟨rfl, hb⟩; replace hB := below_bel hB hb hB.size)
    | (go_at_call 22; refine (sub_c _ _ _ (by assumption) (by assumption) (by assumption)).mono ?_; rintro e wn ⟨rfl, hb⟩; replace hB := below_bel hB hb hB.size)
    | (go_at_call 15; refine (nTrim_any _ _).mono ?_; rintro e wn ⟨rfl, rfl⟩)
    | (go_at_call 12; refine (awake_any _ (tab_keep HT.out hB)).mono ?_; rintro e wn ⟨rfl, hb⟩; replace hB := below_bel hB hb hB.size))
  go_ret
  exact ⟨rfl, hB⟩

/-- ogeelaw01.NatRing: every three texts. -/
theorem natRing_any (a b c : ByteArray) (w : World) (hT : TabAt 0 Lib.deBruijn64tab w) :
    Calls Tryd.prog 9 #[.string a, .string b, .string c] w fun e w' => e = .returned (.bool true) ∧ Below w.heap.size w w' := by
  by_cases h : 300 < a.size ∨ 300 < b.size ∨ 300 < c.size
  · exact natRing_big a b c w hT h
  · exact natRing_main a b c w hT (by omega) (by omega) (by omega)
end Go.Proofs.YtpfiaedlicbkiaaDoor
