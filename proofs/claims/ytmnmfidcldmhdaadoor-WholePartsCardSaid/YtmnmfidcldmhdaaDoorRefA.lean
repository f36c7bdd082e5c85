/- The walks of the document's answers: Cut, Text, Bits, bit. -/
import Derived.Test.YtmnmfidcldmhdaaDoorNatE
import Derived.Test.YtmnmfidcldmhdaaDoorMemB
namespace Go.Proofs.YtmnmfidcldmhdaaDoor
open Go.RowKit

set_option maxRecDepth 100000 in
set_option maxHeartbeats 400000 in
theorem rCut_any (A : Option Addr) (n c v : Nat) (w : World) (hn : n ≤ 9223372036854775807) (hnc : n ≤ c) (hv : v < 2 ^ n) (hr : Rd w A n (bitv v)) :
    Calls Tryd.prog 85 #[.slice A n c] w fun e w' => e = .returned (.slice A (nd 1 v) c) ∧ w = w' := by
  have hv1 : v < (2 ^ 1) ^ n := by rw [Nat.pow_one]; exact hv
  go_enter Tryd.func85, Tryd.ntmps85
  go_wp2
  go_loop [3] (fun s => ∃ k : Nat, k ≤ n ∧ s = .int .i64 k ∧ Hid (∀ j, k ≤ j → j < n → dgt 2 v j = 0)) (fun s => (intOf s).toNat)
  case atStart => exact ⟨n, Nat.le_refl _, rfl, fun j h1 h2 => by omega⟩
  case round =>
    obtain ⟨k, hk, rfl, hz⟩ := hrel
    by_cases hk0 : k = 0
    · subst hk0
      have hnd : nd 1 v = 0 := nd_of_dgts (k := 1) (by decide) hv1 (Nat.zero_le _) hz.out (by omega)
      have H := Lib.hid hnd
      clear hnd hr hv hv1
      go_wp2
      go_ret
      exact ⟨by rw [H.out]; rfl, rfl⟩
    · obtain ⟨b, off, rfl, hc⟩ := hr (by omega)
      have hcell : w.cell? ⟨b, off + (k - 1), none⟩ = some (.int .u8 (dgt 2 v (k - 1) : Nat)) := hc (k - 1) (by omega)
      have HC := Lib.hid hc
      clear hc
      by_cases h0 : dgt 2 v (k - 1) = 0
      · have h0' : ((dgt 2 v (k - 1) : Nat) : Int) = 0 := by omega
        have H0 := Lib.hid h0
        rw [h0'] at hcell
        clear h0 h0' hv hr hv1
        have hk1 : 1 ≤ k := by omega
        go_wp2
        refine ⟨⟨k - 1, by omega, by go_num, fun j h1 h2 => ?_⟩, by simp [intOf]; omega⟩
        by_cases e : j = k - 1
        · subst e; exact H0.out
        · exact hz.out j (by omega) h2
      · have h0' : (((dgt 2 v (k - 1) : Nat) : Int) == 0) = false := by simpa using h0
        have hnd : nd 1 v = k := nd_of_dgts (k := 1) (by decide) hv1 hk hz.out (fun _ => h0)
        have H := Lib.hid hnd
        have hk1 : 1 ≤ k := by omega
        clear hnd hr hv h0 hv1
        go_wp2
        go_ret
        exact ⟨by rw [H.out]; rfl, rfl⟩

set_option maxRecDepth 100000 in
set_option maxHeartbeats 400000 in
theorem rbit_any (A : Option Addr) (n c v i : Nat) (w : World) (hn : n ≤ 9223372036854775807) (hi : i ≤ 9223372036854775807) (hv : v < 2 ^ n) (hr : Rd w A n (bitv v)) :
    Calls Tryd.prog 106 #[.slice A n c, .int .i64 (i : Nat)] w fun e w' => e = .returned (.int .u8 (dgt 2 v i : Nat)) ∧ w = w' := by
  by_cases h : i < n
  · obtain ⟨b, off, rfl, hc⟩ := hr (by omega)
    have hcell : w.cell? ⟨b, off + i, none⟩ = some (.int .u8 (dgt 2 v i : Nat)) := hc i h
    clear hc hr hv
    go_enter Tryd.func106, Tryd.ntmps106
    go_wp2
    go_ret
    exact ⟨rfl, rfl⟩
  · have H := Lib.hid (show dgt 2 v i = 0 from dgt_big' (by decide) hv (by omega))
    clear hv hr
    go_enter Tryd.func106, Tryd.ntmps106
    go_wp2
    go_ret
    exact ⟨by rw [H.out]; rfl, rfl⟩
end Go.Proofs.YtmnmfidcldmhdaaDoor
