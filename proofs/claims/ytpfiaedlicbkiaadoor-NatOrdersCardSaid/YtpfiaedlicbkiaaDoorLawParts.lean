/- The walk of ogeelaw01.NatParts: it answers true whatever the texts. -/
import Derived.Test.YtpfiaedlicbkiaaDoorLawRing
namespace Go.Proofs.YtpfiaedlicbkiaaDoor
open Go.RowKit

theorem div_c (s t : ByteArray) (w : World) (hs : s.size ≤ 1073741824) (ht : t.size ≤ 1073741824) (h : 0 < sval t) :
    Calls Tryd.prog 30 #[.string s, .string t] w fun e w' => e = .returned (.tuple #[.string (nstr (sval s / sval t)), .string (nstr (sval s % sval t)), .bool true]) ∧ Below w.heap.size w w' := by
  have := nDiv_any s t w (by omega) (by omega)
  rw [if_neg (by omega)] at this
  exact this
theorem cmp_c (s t : ByteArray) (w : World) (hs : s.size ≤ 1073741824) (ht : t.size ≤ 1073741824) :
    Calls Tryd.prog 24 #[.string s, .string t] w fun e w' => e = .returned (.int .i64 (cmpI (sval s) (sval t))) ∧ Below w.heap.size w w' := nCmp_any s t w (by omega) (by omega)
theorem cmpI_one {u v : Nat} (h : v < u) : cmpI u v = 1 := by unfold cmpI; rw [if_neg (by omega), if_neg (by omega)]
theorem cmpI_neg {u v : Nat} (h : u < v) : cmpI u v = -1 := by unfold cmpI; rw [if_pos h]
theorem cmpI_self (u : Nat) : cmpI u u = 0 := by unfold cmpI; rw [if_neg (by omega), if_pos rfl]

set_option maxRecDepth 100000 in
set_option maxHeartbeats 1000000 in
theorem natParts_big (a b c : ByteArray) (w : World) (hT : TabAt 0 Lib.deBruijn64tab w) (h : 300 < a.size ∨ 300 < b.size ∨ 300 < c.size) :
    Calls Tryd.prog 10 #[.string a, .string b, .string c] w fun e w' => e = .returned (.bool true) ∧ Below w.heap.size w w' := by
  have HA := Lib.hid (awake_any w hT)
  clear hT
  by_cases h1 : 300 < a.size
  · clear h
    go_enter Tryd.func10, Tryd.ntmps10
    go_wp2_with (go_at_call 12; refine HA.out.mono ?_; rintro e wn ⟨rfl, hb⟩)
    go_ret
    exact ⟨rfl, hb⟩
  · by_cases h2 : 300 < b.size
    · clear h
      go_enter Tryd.func10, Tryd.ntmps10
      go_wp2_with (go_at_call 12; refine HA.out.mono ?_; rintro e wn ⟨rfl, hb⟩)
      go_ret
      exact ⟨rfl, hb⟩
    · have h3 : 300 < c.size := by omega
      clear h
      go_enter Tryd.func10, Tryd.ntmps10
      go_wp2_with (go_at_call 12; refine HA.out.mono ?_; rintro e wn ⟨rfl, hb⟩)
      go_ret
      exact ⟨rfl, hb⟩

set_option maxRecDepth 100000 in
set_option maxHeartbeats 1000000 in
theorem natParts_zero (a b c : ByteArray) (w : World) (hT : TabAt 0 Lib.deBruijn64tab w) (h1 : a.size ≤ 300) (h2 : b.size ≤ 300) (h3 : c.size ≤ 300) (h0 : sval b = 0) :
    Calls Tryd.prog 10 #[.string a, .string b, .string c] w fun e w' => e = .returned (.bool true) ∧ Below w.heap.size w w' := by
  have HT := Lib.hid hT
  have hd := Lib.hid (nDiv_zero a b w (by omega) (by omega) h0)
  have hc := Lib.hid (show ∀ W, _ from fun W => cmp_c b ⟨#[]⟩ W (by omega) (by decide))
  have r8 : sval ⟨#[]⟩ = 0 := by decide
  have r9 := cmpI_self 0
  clear hT
  go_enter Tryd.func10, Tryd.ntmps10
  go_wp2_with fail
  refine hd.out.mono ?_
  rintro e w1 ⟨rfl, hB⟩
  go_wp2_with fail
  refine (hc.out _).mono ?_
  rintro e w2 ⟨rfl, hb⟩
  replace hB := below_bel hB hb hB.size
  go_wp2_with fail
  refine (awake_any _ (tab_keep HT.out hB)).mono ?_
  rintro e wn ⟨rfl, hb⟩
  replace hB := below_bel hB hb hB.size
  go_wp2
  go_ret
  exact ⟨rfl, hB⟩

set_option maxRecDepth 100000 in
set_option maxHeartbeats 4000000 in
theorem natParts_main (a b c : ByteArray) (w : World) (hT : TabAt 0 Lib.deBruijn64tab w) (h1 : a.size ≤ 300) (h2 : b.size ≤ 300) (h3 : c.size ≤ 300) (h0 : 0 < sval b) :
    Calls Tryd.prog 10 #[.string a, .string b, .string c] w fun e w' => e = .returned (.bool true) ∧ Below w.heap.size w w' := by
  have HT := Lib.hid hT
  have hB := Below.refl w.heap.size w
  obtain ⟨E, hE⟩ : ∃ E, E = 300 := ⟨_, rfl⟩
  have ka := sval_le (k := E) (by omega : a.size ≤ E)
  have kb := sval_le (k := E) (by omega : b.size ≤ E)
  have kc := sval_le (k := E) (by omega : c.size ≤ E)
  have za : a.size ≤ 1073741824 := by omega
  have zb : b.size ≤ 1073741824 := by omega
  have zc : c.size ≤ 1073741824 := by omega
  have hmod := Nat.mod_lt (sval a) h0
  have kr := Nat.lt_of_le_of_lt (Nat.mod_le (sval a) (sval b)) ka
  have r1 : sval b * (sval a / sval b) + sval a % sval b = sval a := Nat.div_add_mod _ _
  have kq := Nat.lt_of_le_of_lt (Nat.mul_div_le (sval a) (sval b)) ka
  have zq := sz (Nat.lt_of_le_of_lt (Nat.div_le_self (sval a) (sval b)) ka) (by omega)
  have zr := sz kr (by omega)
  have zbq := sz kq (by omega)
  have zA := sz ka (by omega)
  have zbc := sz (mul_lt256 kb kc) (by omega)
  have zbcr := sz (add_lt256 (mul_lt256 kb kc) (lt256_mono kr (Nat.le_add_right E E))) (by omega)
  have z0 : (⟨#[]⟩ : ByteArray).size ≤ 1073741824 := by decide
  have hsv := sval_nstr
  have r2 : (sval b * sval c + sval a % sval b) / sval b = sval c := by rw [Nat.mul_add_div h0, Nat.div_eq_of_lt hmod, Nat.add_zero]
  have r3 : (sval b * sval c + sval a % sval b) % sval b = sval a % sval b := by rw [Nat.mul_add_mod, Nat.mod_mod]
  have r8 : sval ⟨#[]⟩ = 0 := by decide
  have r9 := cmpI_one h0
  have r10 := cmpI_neg hmod
  clear hT ka kb kc kr kq hmod hE
  go_enter Tryd.func10, Tryd.ntmps10
  go_wp2_with (first
    | (go_at_call 30; refine (div_c _ _ _ (by assumption) (by assumption) h0).mono ?_; rintro e wn ⟨rfl, hb⟩; replace hB := below_bel hB hb hB.size)
    | (go_at_call 24; refine (cmp_c _ _ _ (by assumption) (by assumption)).mono ?_; rintro e wn ⟨rfl, hb⟩; replace hB := below_bel hB hb hB.size)
    | (go_at_call 26; refine (add2_any _ _ _ (by assumption) (by assumption)).mono ?_; rintro e wn ⟨rfl, hb⟩; replace hB := below_bel hB hb hB.size)
    | (go_at_call 28; refine (mul_c _ _ _ (by assumption) (by assumption)).mono ?_; rintro e wn ⟨rfl, hb⟩; replace hB := below_bel hB hb hB.size)
    | (go_at_call 15; refine (nTrim_any _ _).mono ?_; rintro e wn ⟨rfl, rfl⟩)
    | (go_at_call 12; refine (awake_any _ (tab_keep HT.out hB)).mono ?_; rintro e wn ⟨rfl, hb⟩; replace hB := below_bel hB hb hB.size))
  go_ret
  exact ⟨rfl, hB⟩

theorem natParts_any (a b c : ByteArray) (w : World) (hT : TabAt 0 Lib.deBruijn64tab w) :
    Calls Tryd.prog 10 #[.string a, .string b, .string c] w fun e w' => e = .returned (.bool true) ∧ Below w.heap.size w w' := by
  by_cases h : 300 < a.size ∨ 300 < b.size ∨ 300 < c.size
  · exact natParts_big a b c w hT h
  · rcases Nat.eq_zero_or_pos (sval b) with h0 | h0
    · exact natParts_zero a b c w hT (by omega) (by omega) (by omega) h0
    · exact natParts_main a b c w hT (by omega) (by omega) (by omega) h0
end Go.Proofs.YtpfiaedlicbkiaaDoor
