/- The walks and plain laws beneath the statements. -/
import Derived.Test.YtkgogbmeehiloaaGreatDoorPL28
import Derived.Test.YtkgogbmeehiloaaGreatDoorPL10
namespace Go.Proofs.YtkgogbmeehiloaaGreatDoor
open Go.RowKit Go.Lib

theorem lowD_all {v k : Nat} (h : k = 0 ∨ 10 ^ k ≤ v) (hz : v / 10 ^ (k + 1) = 0) : lowD (k + 1) v = decDigits v := by
  have e : v / 10 ^ (k + 1) = v / 10 ^ k / 10 := by rw [Nat.div_div_eq_div_mul, Nat.pow_succ]
  rw [e] at hz
  have h10 : v / 10 ^ k < 10 := by omega
  rw [lowD_cons, Nat.mod_eq_of_lt h10]
  rcases h with rfl | h
  · rw [Nat.pow_zero, Nat.div_one] at h10 ⊢
    rw [dec_small h10]; rfl
  · have h0 : v / 10 ^ k ≠ 0 := Nat.ne_of_gt (Nat.div_pos h (Nat.pow_pos (by decide)))
    rw [dec_low k v h0, dec_small h10]; rfl
theorem nstr_one {d : Nat} (h0 : d ≠ 0) (h : d < 256) : nstr d = ⟨#[UInt8.ofNat d]⟩ := by
  have hn : nd 8 d = 1 := nd_eq (k := 8) (by decide) (by simpa using h) (fun _ => by simp; omega)
  unfold nstr nbytes
  rw [hn]
  simp [dgt, Nat.mod_eq_of_lt h]
theorem byt_one {d : Nat} (h : d < 256) : byt ⟨#[UInt8.ofNat d]⟩ 0 = d := by
  show (UInt8.ofNat d).toNat = d
  simp; omega
theorem conv_one {P : Program} {t t' e : TypeId} (h1 : P.underlying t = some (.slice e)) (h2 : P.underlying e = some (.int .u8)) (h3 : P.underlying t' = some .string) (c : UInt8) (W : World) :
    (convert t t' (.slice (some ⟨W.heap.size, 0, none⟩) 1 1)).run P (W.alloc (.cells #[.int .u8 (c.toNat : Nat)] e)) = .ok (.string ⟨#[c]⟩) (W.alloc (.cells #[.int .u8 (c.toNat : Nat)] e)) :=
  run_convert_bytes_back (P := P) _ t t' e ⟨W.heap.size, 0, none⟩ 1 [c] h1 h2 h3 (fun j hj => by
    have : j = 0 := by simpa using hj
    subst this
    rw [add_plain, World.cell?_alloc_new]; rfl)

set_option maxRecDepth 100000 in
set_option maxHeartbeats 2000000 in
theorem rFigures_any (s : ByteArray) (w : World) (hs : s.size ≤ 65536) :
    Calls Tryz.prog 14 #[.string s] w fun e w' => e = .returned (.string ⟨(decDigits (sval s)).toArray⟩) ∧ Below w.heap.size w w' := by
  have cD := Lib.hid (fun (m : ByteArray) W (h : m.size ≤ 65536) => rDiv_any m ⟨#[10]⟩ W (by omega) (by decide))
  have hTz : sval (⟨#[10]⟩ : ByteArray) = 10 := by decide
  simp only [hTz, if_neg (show ¬ (10 : Nat) = 0 by decide)] at cD
  generalize hv : sval s = v at *
  have hvs : v < 256 ^ s.size := hv ▸ sval_lt s
  have hnd := nDigits_256 hvs
  have HVS := Lib.hid hvs
  have HV := Lib.hid hv
  have cC := Lib.hid (fun c W => conv_one (P := Tryz.prog) (t := 69) (t' := 9) (e := 5) Tryz.underlying69 Tryz.underlying5 Tryz.underlying9 c W)
  clear hv hvs hTz
  go_enter Tryz.func14, Tryz.ntmps14
  go_wp2_with fail
  go_loopw [0, 3] (fun mg out wr => ∃ (k : Nat) (m o : ByteArray), mg = .string m ∧ out = .string o ∧ sval m = v / 10 ^ k ∧ m.size ≤ 65536 ∧ k ≤ nDigits v ∧ Hid (k = 0 ∨ 10 ^ k ≤ v) ∧ Hid (o = ⟨(lowD k v).toArray⟩) ∧ Below w.heap.size w wr) (fun mg _ _ => svO mg)
  case atStart => exact ⟨0, s, _, rfl, rfl, by rw [Nat.pow_zero, Nat.div_one]; exact HV.out, hs, Nat.zero_le _, Lib.hid (.inl rfl), Lib.hid rfl, Below.refl _ _⟩
  case round =>
    obtain ⟨k, m, o, rfl, rfl, hm, hms, hk, hk0, ho, hB⟩ := hrel
    have HM := Lib.hid hm
    have hr : v / 10 ^ k % 10 < 10 := Nat.mod_lt _ (by decide)
    have c1 := Lib.hid (fun W => cD.out m W hms)
    have ep : v / 10 ^ (k + 1) = v / 10 ^ k / 10 := by rw [Nat.div_div_eq_div_mul, Nat.pow_succ]
    rw [hm, ← ep] at c1
    have hos : o.size = k := by rw [ho.out, ba_size, lowD_len]
    have HC := Lib.hid (show (⟨#[dch (v / 10 ^ k % 10)]⟩ : ByteArray) ++ o = ⟨(lowD (k + 1) v).toArray⟩ by rw [ho.out, lowD_cons]; exact ba_append [dch (v / 10 ^ k % 10)] _)
    have hcc : ¬ 9223372036854775807 < (⟨#[dch (v / 10 ^ k % 10)]⟩ : ByteArray).size + o.size := by
      rw [hos]; show ¬ _ < 1 + k; omega
    have hcv := fun W => cC.out (dch (v / 10 ^ k % 10)) W
    have hdc : (dch (v / 10 ^ k % 10)).toNat = 48 + v / 10 ^ k % 10 := dch_toNat hr
    have HQ : (v / 10 ^ (k + 1) = 0) ∨ (v / 10 ^ (k + 1) ≠ 0 ∧ 10 ^ (k + 1) ≤ v ∧ k + 1 ≤ nDigits v ∧ v / 10 ^ (k + 1) < v / 10 ^ k) := by
      by_cases h : v / 10 ^ (k + 1) = 0
      · exact .inl h
      · refine .inr ⟨h, ?_, ?_, ?_⟩
        · rcases Nat.lt_or_ge v (10 ^ (k + 1)) with h2 | h2
          · exact absurd (Nat.div_eq_of_lt h2) h
          · exact h2
        · rcases Nat.lt_or_ge v (10 ^ (k + 1)) with h2 | h2
          · exact absurd (Nat.div_eq_of_lt h2) h
          · exact Nat.le_of_lt ((Nat.pow_lt_pow_iff_right (a := 10) (by decide)).1 (Nat.lt_of_le_of_lt h2 (lt_pow_nDigits v)))
        · rw [ep] at h ⊢
          exact Nat.div_lt_self (Nat.pos_of_ne_zero fun h2 => h (by rw [h2, Nat.zero_div])) (by decide)
    have hqs : (nstr (v / 10 ^ (k + 1))).size ≤ 65536 := by
      rw [nstr_size]
      refine Nat.le_trans (nd_le_of_lt (k := 8) (n := s.size) (by decide) ?_) hs
      exact Nat.lt_of_le_of_lt (Nat.div_le_self _ _) HVS.out
    have HM2 := Lib.hid (show sval (nstr (v / 10 ^ (k + 1))) = v / 10 ^ (k + 1) from sval_nstr _)
    have HEmp := Lib.hid (nstr_empty (v := v / 10 ^ (k + 1)))
    have HALL := Lib.hid (fun h => lowD_all (v := v) (k := k) hk0.out h)
    have HHQ := Lib.hid HQ
    have HQS := Lib.hid hqs
    clear ep hos hk0 ho HQ hqs cD
    by_cases hz : v / 10 ^ k % 10 = 0
    · have he : (nstr (v / 10 ^ k % 10)).toList = [] := nstr_empty.2 hz
      have e48 : ((48 + v / 10 ^ k % 10 : Nat) : Int) = 48 := by omega
      simp only [hdc, e48] at hcv
      clear hz hr e48
      generalize (nstr (v / 10 ^ k % 10)) = r at *
      generalize nstr (v / 10 ^ (k + 1)) = q at *
      generalize (⟨#[dch (v / 10 ^ k % 10)]⟩ : ByteArray) = cs at *
      clear hdc
      rcases HHQ.out with hq | ⟨hq, hge, hkn, hlt⟩
      · have he2 : q.toList = [] := HEmp.out.2 hq
        have HA := Lib.hid (HALL.out hq)
        clear hq
        go_wp2_with fail
        refine (c1.out _).mono ?_
        rintro e w1 ⟨rfl, hb⟩
        replace hB := nxt hB hb
        go_wp2_with fail
        go_ret
        exact ⟨by rw [← HA.out, ← HC.out]; rfl, nxtA hB _⟩
      · have he2 : q.toList.isEmpty = false := by rw [List.isEmpty_eq_false_iff]; exact fun h => hq (HEmp.out.1 h)
        have HG := Lib.hid hge
        have HL := Lib.hid hlt
        clear hq hge hlt
        go_wp2_with fail
        refine (c1.out _).mono ?_
        rintro e w1 ⟨rfl, hb⟩
        replace hB := nxt hB hb
        go_wp2_with fail
        refine ⟨⟨k + 1, q, _, rfl, rfl, HM2.out, HQS.out, hkn, Lib.hid (.inr HG.out), HC, nxtA hB _⟩, ?_⟩
        show sval q < sval m
        rw [HM2.out, HM.out]; exact HL.out
    · have hi : ∀ W, (Instr.index 9 (.string (nstr (v / 10 ^ k % 10))) (.int .i64 0)).run Tryz.prog W = .ok (.int .u8 (v / 10 ^ k % 10 : Nat)) W := fun W => by
        have h1 := nstr_one hz (Nat.lt_trans hr (by decide))
        have h2 := run_idx (P := Tryz.prog) (t := 9) (⟨#[UInt8.ofNat (v / 10 ^ k % 10)]⟩ : ByteArray) Tryz.underlying9 0 (by exact Nat.one_pos) W
        rw [byt_one (Nat.lt_trans hr (by decide))] at h2
        rw [h1]; exact h2
      have he : (nstr (v / 10 ^ k % 10)).toList.isEmpty = false := by rw [List.isEmpty_eq_false_iff]; exact fun h => hz (nstr_empty.1 h)
      have hw : IntKind.u8.wrap (48 + (v / 10 ^ k % 10 : Nat)) = ((48 + v / 10 ^ k % 10 : Nat) : Int) := u8_wrap (by omega) (by omega)
      simp only [hdc] at hcv
      clear hz hr hdc
      generalize (nstr (v / 10 ^ k % 10)) = r at *
      generalize nstr (v / 10 ^ (k + 1)) = q at *
      generalize (⟨#[dch (v / 10 ^ k % 10)]⟩ : ByteArray) = cs at *
      generalize ((48 + v / 10 ^ k % 10 : Nat) : Int) = X at *
      generalize ((v / 10 ^ k % 10 : Nat) : Int) = D at *
      rcases HHQ.out with hq | ⟨hq, hge, hkn, hlt⟩
      · have he2 : q.toList = [] := HEmp.out.2 hq
        have HA := Lib.hid (HALL.out hq)
        clear hq
        go_wp2_with fail
        refine (c1.out _).mono ?_
        rintro e w1 ⟨rfl, hb⟩
        replace hB := nxt hB hb
        go_wp2_with fail
        go_ret
        exact ⟨by rw [← HA.out, ← HC.out]; rfl, nxtA hB _⟩
      · have he2 : q.toList.isEmpty = false := by rw [List.isEmpty_eq_false_iff]; exact fun h => hq (HEmp.out.1 h)
        have HG := Lib.hid hge
        have HL := Lib.hid hlt
        clear hq hge hlt
        go_wp2_with fail
        refine (c1.out _).mono ?_
        rintro e w1 ⟨rfl, hb⟩
        replace hB := nxt hB hb
        go_wp2_with fail
        refine ⟨⟨k + 1, q, _, rfl, rfl, HM2.out, HQS.out, hkn, Lib.hid (.inr HG.out), HC, nxtA hB _⟩, ?_⟩
        show sval q < sval m
        rw [HM2.out, HM.out]; exact HL.out
end Go.Proofs.YtkgogbmeehiloaaGreatDoor

