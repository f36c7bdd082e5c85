/- The walks of ogeelaw01.NatForms, NatOrders, NatMuls: each answers true. -/
import Derived.Test.YtpfiaedlicbkiaaDoorLawBits
import Derived.Test.YtpfiaedlicbkiaaDoorRefJ
namespace Go.Proofs.YtpfiaedlicbkiaaDoor
open Go.RowKit

set_option maxRecDepth 100000 in
set_option maxHeartbeats 1000000 in
theorem natForms_any (v : Nat) (a : ByteArray) (w : World) (hv : v < LB) (hT : TabAt 0 Lib.deBruijn64tab w) :
    Calls Tryd.prog 3 #[.int .u64 (v : Nat), .string a] w fun e w' => e = .returned (.bool true) ∧ Below w.heap.size w w' := by
  have HA := Lib.hid (fun W (h : Below w.heap.size w W) => awake_any W (tab_keep hT h))
  have HT := Lib.hid hT
  have hB := Below.refl w.heap.size w
  clear hT
  by_cases h1 : 200 < a.size
  · go_enter Tryd.func3, Tryd.ntmps3
    go_wp2_with (go_at_call 12; refine (HA.out _ hB).mono ?_; rintro e wn ⟨rfl, hb⟩)
    go_ret
    exact ⟨rfl, hb⟩
  · have z1 : a.size ≤ 200 := by omega
    have z2 : a.size ≤ 4294967296 := by omega
    have z3 : a.size ≤ 268435456 := by omega
    have Z2 := Lib.hid z2
    have Z3 := Lib.hid z3
    have HB := Lib.hid (show nd 1 (sval a) ≤ 4294967296 by have := nd1_size a; omega)
    have HV := Lib.hid hv
    have l1 := Lib.hid (lt2_nd (sval a))
    clear h1 hv z2 z3
    go_enter Tryd.func3, Tryd.ntmps3
    go_wp2_with (first
      | (go_at_call 13; refine (nOf_any v _ HV.out).mono ?_; rintro e wn ⟨rfl, hb⟩; replace hB := below_bel hB hb hB.size)
      | (go_at_call 14; refine (rOf_any v _ HV.out).mono ?_; rintro e wn ⟨rfl, hb⟩; replace hB := below_bel hB hb hB.size)
      | (go_at_call 15; refine (nTrim_any _ _).mono ?_; rintro e wn ⟨rfl, rfl⟩)
      | (go_at_call 17; refine (rBits_any a _ Z3.out).mono ?_; rintro e wn ⟨A, c, rfl, hnc, hr, hb⟩; replace hB := below_bel hB hb hB.size)
      | (go_at_call 16; refine (rText_any _ _ _ _ _ HB.out hnc l1.out hr).mono ?_; rintro e wn ⟨rfl, hb⟩; replace hB := below_bel hB hb hB.size)
      | (go_at_call 18; refine (nLen_any _ _ Z2.out).mono ?_; rintro e wn ⟨rfl, hb⟩; replace hB := below_bel hB hb hB.size)
      | (go_at_call 19; refine (rLen_any _ _ Z3.out).mono ?_; rintro e wn ⟨rfl, hb⟩; replace hB := below_bel hB hb hB.size)
      | (go_at_call 20; refine (nZeros_any _ _ Z2.out (tab_keep HT.out hB)).mono ?_; rintro e wn ⟨rfl, hb⟩; replace hB := below_bel hB hb hB.size)
      | (go_at_call 21; refine (rZeros_any _ _ Z3.out).mono ?_; rintro e wn ⟨rfl, hb⟩; replace hB := below_bel hB hb hB.size)
      | (go_at_call 12; refine (HA.out _ hB).mono ?_; rintro e wn ⟨rfl, hb⟩; replace hB := below_bel hB hb hB.size))
    go_ret
    exact ⟨rfl, hB⟩

theorem natForms_int (x : Int) (a : ByteArray) (w : World) (hx' : (Lit.int IntKind.u64 x).wf = true) (hT : TabAt 0 Lib.deBruijn64tab w) :
    Calls Tryd.prog 3 #[.int .u64 x, .string a] w fun e w' => e = .returned (.bool true) ∧ Below w.heap.size w w' := by
  have hx : 0 ≤ x ∧ x ≤ 18446744073709551615 := by simpa [Lit.wf, IntKind.min, IntKind.max, IntKind.signed, IntKind.bits] using hx'
  obtain ⟨v, rfl⟩ : ∃ v : Nat, x = (v : Int) := ⟨x.toNat, by omega⟩
  exact natForms_any v a w (by rw [LB_eq]; omega) hT

set_option maxRecDepth 100000 in
set_option maxHeartbeats 1000000 in
theorem natOrders_any (a b : ByteArray) (w : World) (hT : TabAt 0 Lib.deBruijn64tab w) :
    Calls Tryd.prog 4 #[.string a, .string b] w fun e w' => e = .returned (.bool true) ∧ Below w.heap.size w w' := by
  have HA := Lib.hid (fun W (h : Below w.heap.size w W) => awake_any W (tab_keep hT h))
  have hB := Below.refl w.heap.size w
  clear hT
  by_cases h1 : 200 < a.size
  · go_enter Tryd.func4, Tryd.ntmps4
    go_wp2_with (go_at_call 12; refine (HA.out _ hB).mono ?_; rintro e wn ⟨rfl, hb⟩)
    go_ret
    exact ⟨rfl, hb⟩
  by_cases h2 : 200 < b.size
  · go_enter Tryd.func4, Tryd.ntmps4
    go_wp2_with (go_at_call 12; refine (HA.out _ hB).mono ?_; rintro e wn ⟨rfl, hb⟩)
    go_ret
    exact ⟨rfl, hb⟩
  have z1 : a.size ≤ 200 := by omega
  have z2 : b.size ≤ 200 := by omega
  have cS := Lib.hid (fun W => nSub_any a b W (by omega) (by omega))
  have cT := Lib.hid (fun W => rSub_any a b W (by omega) (by omega))
  have cC := Lib.hid (fun W => nCmp_any a b W (by omega) (by omega))
  have cD := Lib.hid (fun W => rCmp_any a b W (by omega) (by omega))
  clear h1 h2
  by_cases hlt : sval a < sval b
  · simp only [if_pos hlt] at cS cT
    clear hlt
    go_enter Tryd.func4, Tryd.ntmps4
    go_wp2_with (first
      | (go_at_call 22; refine (cS.out _).mono ?_; rintro e wn ⟨rfl, hb⟩; replace hB := below_bel hB hb hB.size)
      | (go_at_call 23; refine (cT.out _).mono ?_; rintro e wn ⟨rfl, hb⟩; replace hB := below_bel hB hb hB.size)
      | (go_at_call 24; refine (cC.out _).mono ?_; rintro e wn ⟨rfl, hb⟩; replace hB := below_bel hB hb hB.size)
      | (go_at_call 25; refine (cD.out _).mono ?_; rintro e wn ⟨rfl, hb⟩; replace hB := below_bel hB hb hB.size)
      | (go_at_call 12; refine (HA.out _ hB).mono ?_; rintro e wn ⟨rfl, hb⟩; replace hB := below_bel hB hb hB.size))
    go_ret
    exact ⟨rfl, hB⟩
  · simp only [if_neg hlt] at cS cT
    clear hlt
    go_enter Tryd.func4, Tryd.ntmps4
    go_wp2_with (first
      | (go_at_call 22; refine (cS.out _).mono ?_; rintro e wn ⟨rfl, hb⟩; replace hB := below_bel hB hb hB.size)
      | (go_at_call 23; refine (cT.out _).mono ?_; rintro e wn ⟨rfl, hb⟩; replace hB := below_bel hB hb hB.size)
      | (go_at_call 24; refine (cC.out _).mono ?_; rintro e wn ⟨rfl, hb⟩; replace hB := below_bel hB hb hB.size)
      | (go_at_call 25; refine (cD.out _).mono ?_; rintro e wn ⟨rfl, hb⟩; replace hB := below_bel hB hb hB.size)
      | (go_at_call 12; refine (HA.out _ hB).mono ?_; rintro e wn ⟨rfl, hb⟩; replace hB := below_bel hB hb hB.size))
    go_ret
    exact ⟨rfl, hB⟩

set_option maxRecDepth 100000 in
set_option maxHeartbeats 1000000 in
theorem natMuls_any (a b : ByteArray) (w : World) (hT : TabAt 0 Lib.deBruijn64tab w) :
    Calls Tryd.prog 6 #[.string a, .string b] w fun e w' => e = .returned (.bool true) ∧ Below w.heap.size w w' := by
  have HA := Lib.hid (fun W (h : Below w.heap.size w W) => awake_any W (tab_keep hT h))
  have hB := Below.refl w.heap.size w
  clear hT
  by_cases h1 : 80 < a.size
  · go_enter Tryd.func6, Tryd.ntmps6
    go_wp2_with (go_at_call 12; refine (HA.out _ hB).mono ?_; rintro e wn ⟨rfl, hb⟩)
    go_ret
    exact ⟨rfl, hb⟩
  by_cases h2 : 80 < b.size
  · go_enter Tryd.func6, Tryd.ntmps6
    go_wp2_with (go_at_call 12; refine (HA.out _ hB).mono ?_; rintro e wn ⟨rfl, hb⟩)
    go_ret
    exact ⟨rfl, hb⟩
  have z1 : a.size ≤ 80 := by omega
  have z2 : b.size ≤ 80 := by omega
  have cS := Lib.hid (fun W => nMul_any a b W (by omega) (by omega))
  have cT := Lib.hid (fun W => rMul_any a b W (by omega) (by omega))
  clear h1 h2
  go_enter Tryd.func6, Tryd.ntmps6
  go_wp2_with (first
    | (go_at_call 28; refine (cS.out _).mono ?_; rintro e wn ⟨rfl, hb⟩; replace hB := below_bel hB hb hB.size)
    | (go_at_call 29; refine (cT.out _).mono ?_; rintro e wn ⟨rfl, hb⟩; replace hB := below_bel hB hb hB.size)
    | (go_at_call 12; refine (HA.out _ hB).mono ?_; rintro e wn ⟨rfl, hb⟩; replace hB := below_bel hB hb hB.size))
  go_ret
  exact ⟨rfl, hB⟩
end Go.Proofs.YtpfiaedlicbkiaaDoor
