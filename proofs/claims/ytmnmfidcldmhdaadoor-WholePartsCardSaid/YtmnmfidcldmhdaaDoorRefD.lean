/- The walks of the document's answers: Compare, Plus, Minus. -/
import Derived.Test.YtmnmfidcldmhdaaDoorRefC
namespace Go.Proofs.YtmnmfidcldmhdaaDoor
open Go.RowKit

set_option maxRecDepth 100000 in
set_option maxHeartbeats 400000 in
theorem rCompare_any (A A' : Option Addr) (n n' c c' u v : Nat) (w : World) (hn : n ≤ 4294967296) (hn' : n' ≤ 4294967296) (hu : u < 2 ^ n) (hv : v < 2 ^ n') (hr : Rd w A n (bitv u)) (hr' : Rd w A' n' (bitv v)) :
    Calls Tryd.prog 86 #[.slice A n c, .slice A' n' c'] w fun e w' => e = .returned (.int .i64 (cmpI u v)) ∧ w = w' := by
  obtain ⟨K, hK⟩ : ∃ K, K = max n n' := ⟨_, rfl⟩
  have hmax : max (n : Int) (n' : Int) = (K : Int) := by omega
  have hKb : K ≤ 4294967296 := by omega
  have HU := Lib.hid (show u < 2 ^ K from Nat.lt_of_lt_of_le hu (Nat.pow_le_pow_right (by decide) (by omega)))
  have HV := Lib.hid (show v < 2 ^ K from Nat.lt_of_lt_of_le hv (Nat.pow_le_pow_right (by decide) (by omega)))
  have c1 := Lib.hid (fun i (hi : i ≤ 9223372036854775807) => rbit_any A n c u i w (by omega) hi hu hr)
  have c2 := Lib.hid (fun i (hi : i ≤ 9223372036854775807) => rbit_any A' n' c' v i w (by omega) hi hv hr')
  clear hu hv hr hr' hK
  go_enter Tryd.func86, Tryd.ntmps86
  go_wp2
  go_loop [5] (fun i => ∃ k : Nat, k ≤ K ∧ i = .int .i64 ((k : Int) - 1) ∧ Hid (∀ j, k ≤ j → j < K → dgt 2 u j = dgt 2 v j)) (fun i => (intOf i + 1).toNat)
  case atStart => exact ⟨K, Nat.le_refl _, rfl, fun j h1 h2 => by omega⟩
  case round =>
    obtain ⟨k, hk1, rfl, hz⟩ := hrel
    rcases k with _ | p
    · have hfin := Lib.hid (show cmpI u v = 0 by
        have e : u = v := dgt_ext (B := 2) (n := K) HU.out HV.out (fun j hj => hz.out j (Nat.zero_le _) hj)
        subst e; unfold cmpI; simp)
      have e0 : ((0 : Nat) : Int) - 1 = -1 := rfl
      rw [e0]
      go_wp2
      go_ret
      exact ⟨by rw [hfin.out]; rfl, rfl⟩
    · have e0 : ((p + 1 : Nat) : Int) - 1 = (p : Int) := by omega
      rw [e0]
      clear e0
      have d1 := Lib.hid (c1.out p (by omega))
      have d2 := Lib.hid (c2.out p (by omega))
      have HG := Lib.hid (show (dgt 2 u p < dgt 2 v p → cmpI u v = -1) ∧ (dgt 2 v p < dgt 2 u p → cmpI u v = 1) from
        ⟨fun h => by have := lt_of_dgt (B := 2) (by decide) HU.out HV.out hk1 (fun j h1 h2 => hz.out j h1 h2) h; unfold cmpI; rw [if_pos this],
         fun h => by have := lt_of_dgt (B := 2) (by decide) HV.out HU.out hk1 (fun j h1 h2 => (hz.out j h1 h2).symm) h; unfold cmpI; rw [if_neg (by omega), if_neg (by omega)]⟩)
      rcases Nat.lt_trichotomy (dgt 2 u p) (dgt 2 v p) with hd | hd | hd
      · have hd1 : ((dgt 2 u p : Nat) : Int) < ((dgt 2 v p : Nat) : Int) := by omega
        have hfin := Lib.hid (HG.out.1 hd)
        clear hd
        go_wp2_with fail
        refine d1.out.mono ?_
        rintro e w' ⟨rfl, rfl⟩
        go_wp2_with fail
        refine d2.out.mono ?_
        rintro e w' ⟨rfl, rfl⟩
        go_wp2
        go_ret
        exact ⟨by rw [hfin.out]; rfl, rfl⟩
      · have hd1 : ¬ ((dgt 2 u p : Nat) : Int) < ((dgt 2 v p : Nat) : Int) := by omega
        have hd2 : ¬ ((dgt 2 v p : Nat) : Int) < ((dgt 2 u p : Nat) : Int) := by omega
        have HD := Lib.hid hd
        clear hd
        go_wp2_with fail
        refine d1.out.mono ?_
        rintro e w' ⟨rfl, rfl⟩
        go_wp2_with fail
        refine d2.out.mono ?_
        rintro e w' ⟨rfl, rfl⟩
        go_wp2_with fail
        refine d1.out.mono ?_
        rintro e w' ⟨rfl, rfl⟩
        go_wp2_with fail
        refine d2.out.mono ?_
        rintro e w' ⟨rfl, rfl⟩
        go_wp2
        refine ⟨⟨p, by omega, rfl, fun j h1 h2 => ?_⟩, by simp [intOf]⟩
        by_cases e : j = p
        · subst e; exact HD.out
        · exact hz.out j (by omega) h2
      · have hd1 : ¬ ((dgt 2 u p : Nat) : Int) < ((dgt 2 v p : Nat) : Int) := by omega
        have hd2 : ((dgt 2 v p : Nat) : Int) < ((dgt 2 u p : Nat) : Int) := by omega
        have hfin := Lib.hid (HG.out.2 hd)
        clear hd
        go_wp2_with fail
        refine d1.out.mono ?_
        rintro e w' ⟨rfl, rfl⟩
        go_wp2_with fail
        refine d2.out.mono ?_
        rintro e w' ⟨rfl, rfl⟩
        go_wp2_with fail
        refine d1.out.mono ?_
        rintro e w' ⟨rfl, rfl⟩
        go_wp2_with fail
        refine d2.out.mono ?_
        rintro e w' ⟨rfl, rfl⟩
        go_wp2
        go_ret
        exact ⟨by rw [hfin.out]; rfl, rfl⟩
end Go.Proofs.YtmnmfidcldmhdaaDoor
