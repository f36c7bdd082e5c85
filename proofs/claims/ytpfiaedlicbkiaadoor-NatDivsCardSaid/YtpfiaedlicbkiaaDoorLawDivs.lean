/- The walks of ogeelaw01.NatDivs, NatShifts: each answers true. -/
import Derived.Test.YtpfiaedlicbkiaaDoorLawForms
import Derived.Test.YtpfiaedlicbkiaaDoorRefK
namespace Go.Proofs.YtpfiaedlicbkiaaDoor
open Go.RowKit

set_option maxRecDepth 100000 in
set_option maxHeartbeats 1000000 in
theorem natDivs_any (a b : ByteArray) (w : World) (hT : TabAt 0 Lib.deBruijn64tab w) :
    Calls Tryd.prog 7 #[.string a, .string b] w fun e w' => e = .returned (.bool true) ∧ Below w.heap.size w w' := by
  have HA := Lib.hid (fun W (h : Below w.heap.size w W) => awake_any W (tab_keep hT h))
  have hB := Below.refl w.heap.size w
  clear hT
  by_cases h1 : 80 < a.size
  · go_enter Tryd.func7, Tryd.ntmps7
    go_wp2_with (go_at_call 12; refine (HA.out _ hB).mono ?_; rintro e wn ⟨rfl, hb⟩)
    go_ret
    exact ⟨rfl, hb⟩
  by_cases h2 : 80 < b.size
  · go_enter Tryd.func7, Tryd.ntmps7
    go_wp2_with (go_at_call 12; refine (HA.out _ hB).mono ?_; rintro e wn ⟨rfl, hb⟩)
    go_ret
    exact ⟨rfl, hb⟩
  have z1 : a.size ≤ 80 := by omega
  have z2 : b.size ≤ 80 := by omega
  have cS := Lib.hid (fun W => nDiv_any a b W (by omega) (by omega))
  have cT := Lib.hid (fun W => rDiv_any a b W (by omega) (by omega))
  clear h1 h2
  by_cases h0 : sval b = 0
  · simp only [if_pos h0] at cS cT
    clear h0
    go_enter Tryd.func7, Tryd.ntmps7
    go_wp2_with (first
      | (go_at_call 30; refine (cS.out _).mono ?_; rintro e wn ⟨rfl, hb⟩; replace hB := below_bel hB hb hB.size)
      | (go_at_call 31; refine (cT.out _).mono ?_; rintro e wn ⟨rfl, hb⟩; replace hB := below_bel hB hb hB.size)
      | (go_at_call 12; refine (HA.out _ hB).mono ?_; rintro e wn ⟨rfl, hb⟩; replace hB := below_bel hB hb hB.size))
    go_ret
    exact ⟨rfl, hB⟩
  · simp only [if_neg h0] at cS cT
    clear h0
    go_enter Tryd.func7, Tryd.ntmps7
    go_wp2_with (first
      | (go_at_call 30; refine (cS.out _).mono ?_; rintro e wn ⟨rfl, hb⟩; replace hB := below_bel hB hb hB.size)
      | (go_at_call 31; refine (cT.out _).mono ?_; rintro e wn ⟨rfl, hb⟩; replace hB := below_bel hB hb hB.size)
      | (go_at_call 12; refine (HA.out _ hB).mono ?_; rintro e wn ⟨rfl, hb⟩; replace hB := below_bel hB hb hB.size))
    go_ret
    exact ⟨rfl, hB⟩
end Go.Proofs.YtpfiaedlicbkiaaDoor
